-- Made by hprint.py (wip/) out of the translation; not trusted: Lean checks it.
import Derived.Test.YtnpaaaponjcmkaaPFnExactPartWaysx0
import Derived.Test.YtnpaaaponjcmkaaPFnExactPartWaysx3
import Derived.Test.YtnpaaaponjcmkaaPFnExactPartWaysx4
namespace Go.Proofs.Ytnpaaaponjcmkaa.PFnExactPartWays
open Go.RowKit Go.Proofs.YtnpaaaponjcmkaaW.PrintWords Go.Proofs.YtnpaaaponjcmkaaW.PrintLast Go.Proofs.YtnpaaaponjcmkaaW.PrintMore
attribute [local go_sem] max2_int min2_int max_two min_two max_three min_three max_four min_four   -- for this text's walks alone
set_option linter.unusedVariables false
set_option linter.unusedSimpArgs false

/-! ### impl_parts: function 11, by hand -/
def impl_parts.fit (k : Nat) (a : List Int) (l : List Int) (m : Nat) : Option Bool := impl_partsFit.f k a l (m : Int)
def impl_parts.cnt (k : Nat) (l : List Int) (i : Int) : Option Int := impl_countOf.f k l i
def impl_parts.f {σ : Type} (k : Nat) (step : σ → List Int → Option σ) (s : σ) (a : List Int) : Option σ := if a.length < 1000 then Go.Proofs.Ytnpaaaponjcmkaa.HPrt.vis (impl_parts.fit k a) (impl_parts.cnt k) step a.length [] 0 s else none
abbrev impl_parts.try (E : Nat) : Value := .func (.func 18) #[] #[Go.Proofs.Ytnpaaaponjcmkaa.HPrt.pt (E + 3), Go.Proofs.Ytnpaaaponjcmkaa.HPrt.pt E, Go.Proofs.Ytnpaaaponjcmkaa.HPrt.pt (E + 1), Go.Proofs.Ytnpaaaponjcmkaa.HPrt.pt (E + 4)]
/-- What 'tell' answers, in every world in which its state lies. -/
def impl_parts.Tells {σ : Type} (tell : Nat) (tb B E : Nat) (J : Nat → Prop) (Inv : σ → World → Prop) (step : σ → List Int → Option σ) : Prop :=
  ∀ (W : World) (A : Option Addr) (c : Nat) (ys : List Int) (s s' : σ), Kd.C (Kd.int .i64) W A ys.length ys → ys.length ≤ c → Inv s W → E ≤ W.heap.size → step s ys = some s' →
    Calls Try.prog tell #[.slice A ys.length c, Go.Proofs.Ytnpaaaponjcmkaa.HPrt.pt tb] W fun e w' => e = .returned (.tuple #[]) ∧ Inv s' w' ∧ Below B W w' ∧ ∀ k, k < W.heap.size → ¬ J k → w'.heap[k]? = W.heap[k]?
abbrev impl_parts.ST (tell tb : Nat) (w0 : World) (B E : Nat) (A : Option Addr) (n c : Nat) := Go.Proofs.Ytnpaaaponjcmkaa.HPrt.St 22 31 33 (impl_parts.try E) (.func (.func tell) #[] #[Go.Proofs.Ytnpaaaponjcmkaa.HPrt.pt tb]) w0 B E A n c
open Go.Proofs.Ytnpaaaponjcmkaa.HPrt in
set_option maxHeartbeats 8000000 in
set_option maxRecDepth 100000 in
theorem impl_parts.try_calls {σ : Type} {k tell tb B E c : Nat} {A : Option Addr} {a : List Int} {J : Nat → Prop} {Inv : σ → World → Prop} {step : σ → List Int → Option σ} {w0 : World} (eg : ∀ args w, (callFunc tell args).run Try.prog w = .ok (.enter tell args) w)
    (hT : impl_parts.Tells tell tb B E J Inv step) (hJ : ∀ k, J k → B ≤ k ∧ k < E) (hn : a.length < 1000) (hac : a.length ≤ c) (hA : ∀ W : World, (∀ k, k < B → W.heap[k]? = w0.heap[k]?) → Kd.C (Kd.int .i64) W A a.length a) (hI : ∀ s W W', Inv s W → (∀ k, J k → W'.heap[k]? = W.heap[k]?) → Inv s W') :
    ∀ (d : Nat) (l : List Int), l.length + d = a.length → ∀ (m : Nat) (v : Int) (s s' : σ) (w : World), v = m → m ≤ l.length → impl_parts.ST tell tb w0 B E A a.length c w l → Inv s w → vis (impl_parts.fit k a) (impl_parts.cnt k) step d l m s = some s' →
    Calls Try.prog 18 #[.int .i64 v, pt (E + 3), pt E, pt (E + 1), pt (E + 4)] w fun e w' => e = .returned (.tuple #[]) ∧ impl_parts.ST tell tb w0 B E A a.length c w' l ∧ Inv s' w' ∧ Below B w w' := by
  intro d
  induction d with
  | zero =>
    intro l hd m v s s' w hv hml hst hinv h
    subst hv
    have hla : l.length = a.length := by omega
    have hl := hst.lt
    have hbe := hst.be
    have cL := cell_of_one hst.bl
    have cA := cell_of_one hst.ba
    have cT := cell_of_one hst.bt
    have q1 : ((l.length : Int) == (a.length : Int)) = true := beq_iff_eq.mpr (by omega)
    have h' : ((impl_parts.fit k a l m).bind fun t => if t = true then step s l else some s) = some s' := h
    obtain ⟨t, h1, h2⟩ := Option.bind_eq_some_iff.mp h'
    have k1 := impl_partsFit.calls k A c a (some ⟨E + 2, 0, none⟩) a.length l (m : Int) t w (hA w hst.kept) hac (own_C hst.bg) (by omega) h1
    have HST := Aside0.mk hst
    have HV := Aside0.mk hinv
    have HLA := Aside0.mk hla
    clear hst h h' h1 hinv hd hla
    cases t with
    | false =>
      rw [if_neg (by decide)] at h2
      obtain rfl := Option.some.inj h2
      clear h2 hT
      go_enter Try.func18, Try.ntmps18
      go_wp2_with (go_at_call 19; refine k1.mono ?_; rintro e w1 ⟨rfl, hb⟩; have HB1 := Aside0.mk (hb.mono (show B ≤ w.heap.size by omega)); have HS1 := Aside0.mk (HST.out.below hb); have HV1 := Aside0.mk (hI _ _ _ HV.out (fun j hj => hb.block j (by have := hJ j hj; omega))); clear hb k1)
      first | go_end0 | refine bodyPost_ret (results_none rfl _ _ _) rfl ?_
      exact ⟨rfl, HS1.out, HV1.out, HB1.out⟩
    | true =>
      rw [if_pos rfl] at h2
      have kt : ∀ W : World, impl_parts.ST tell tb w0 B E A a.length c W l → Inv s W → Calls Try.prog tell #[.slice (some ⟨E + 2, 0, none⟩) l.length a.length, pt tb] W fun e w' => e = .returned (.tuple #[]) ∧ Inv s' w' ∧ Below B W w' ∧ ∀ k, k < W.heap.size → ¬ J k → w'.heap[k]? = W.heap[k]? := fun W hS hV => hT W (some ⟨E + 2, 0, none⟩) a.length l s s' (own_C hS.bg) (by have := HLA.out; omega) hV (by have := hS.lt; omega) h2
      clear h2 hT
      go_enter Try.func18, Try.ntmps18
      go_wp2_with (first | (go_at_call 19; refine k1.mono ?_; rintro e w1 ⟨rfl, hb⟩; have HB1 := Aside0.mk (hb.mono (show B ≤ w.heap.size by omega)); have HS1 := Aside0.mk (HST.out.below hb); have HV1 := Aside0.mk (hI _ _ _ HV.out (fun j hj => hb.block j (by have := hJ j hj; omega))); have cL1 := cell_of_one HS1.out.bl; have cT1 := cell_of_one HS1.out.bt; clear hb k1) | (go_at_fn tell; refine (kt _ HS1.out HV1.out).mono ?_; rintro e w2 ⟨rfl, hi, hb, hk⟩; have HV2 := Aside0.mk hi; have HB2 := Aside0.mk (HB1.out.trans hb); have HS2 := Aside0.mk (HS1.out.step hJ hk); clear kt hi hb hk))
      first | go_end0 | refine bodyPost_ret (results_none rfl _ _ _) rfl ?_
      exact ⟨rfl, HS2.out, HV2.out, HB2.out⟩
  | succ d ih =>
    intro l hd m v s s' w hv hml hst hinv h
    subst hv
    have hla : l.length < a.length := by omega
    have hl := hst.lt
    have hbe := hst.be
    have cL := cell_of_one hst.bl
    have cA := cell_of_one hst.ba
    have q1 : ((l.length : Int) == (a.length : Int)) = false := beq_eq_false_iff_ne.mpr (by omega)
    have H : row (fun κ s => if 0 ≤ κ then ((impl_parts.cnt k l κ).bind fun c => if c = 3 then some s else vis (impl_parts.fit k a) (impl_parts.cnt k) step d (l ++ [κ]) (if κ = (m : Int) then m + 1 else m) s) else vis (impl_parts.fit k a) (impl_parts.cnt k) step d (l ++ [κ]) (if κ = (m : Int) then m + 1 else m) s) (m + 2) (-1) s = some s' := h
    have H' := Aside0.mk H
    have HST := Aside0.mk hst
    have HV := Aside0.mk hinv
    have IH := Aside0.mk ih
    have HD := Aside0.mk hd
    obtain ⟨i0, hi0, _, hsz0, _⟩ := info_parts (show (Try.prog.info? 3).map (fun i => (i.zero, i.size, i.bytes)) = some (some (.int .i64 0), 1, 8) by kernel_rfl)
    clear h H hst hinv ih hd hT
    go_enter Try.func18, Try.ntmps18
    go_wp2
    go_loopg [6] (m + 2) (fun kq v6 w' => ∃ (κ : Int) (s1 : σ), v6 = .int .i64 κ ∧ Aside0 (κ + kq = m + 1 ∧ -1 ≤ κ) ∧ Aside0 (row (fun κ s => if 0 ≤ κ then ((impl_parts.cnt k l κ).bind fun c => if c = 3 then some s else vis (impl_parts.fit k a) (impl_parts.cnt k) step d (l ++ [κ]) (if κ = (m : Int) then m + 1 else m) s) else vis (impl_parts.fit k a) (impl_parts.cnt k) step d (l ++ [κ]) (if κ = (m : Int) then m + 1 else m) s) kq κ s1 = some s') ∧ Aside0 (impl_parts.ST tell tb w0 B E A a.length c w' l) ∧ Aside0 (Inv s1 w') ∧ Aside0 (Below B w w'))
    case atStart => exact ⟨-1, s, rfl, ⟨by omega⟩, H', HST, HV, ⟨Below.refl _ _⟩⟩
    case round =>
      clear H' HST HV
      obtain ⟨κ, s1, rfl, HN, HH, HS, HV, HB⟩ := hrel
      have hn1 := HN.out
      have cL1 := cell_of_one HS.out.bl
      have cF1 := cell_of_one HS.out.bf
      cases gk with
      | zero =>
        have hH := Option.some.inj HH.out
        subst hH
        clear HH
        have q2 : decide (κ ≤ (m : Int)) = false := decide_eq_false (by omega)
        go_wp2
        go_end0
        exact ⟨rfl, HS.out, HV.out, HB.out⟩
      | succ g1 =>
        obtain ⟨s2, R1, R2⟩ := Option.bind_eq_some_iff.mp HH.out
        dsimp only at R1
        have HR2 := Aside0.mk R2
        clear HH R2
        have q2 : decide (κ ≤ (m : Int)) = true := decide_eq_true (by omega)
        have hlw := HS.out.lt
        by_cases h0 : 0 ≤ κ
        · rw [if_pos h0] at R1
          have q3 : decide ((0 : Int) ≤ κ) = true := decide_eq_true h0
          obtain ⟨c1, C1, R1⟩ := Option.bind_eq_some_iff.mp R1
          have k2 := impl_countOf.calls k (some ⟨E + 2, 0, none⟩) a.length l κ c1 wr (own_C HS.out.bg) (by omega) C1
          clear C1
          by_cases h3 : c1 = 3
          · rw [if_pos h3] at R1
            obtain rfl := Option.some.inj R1
            clear R1
            have q4 : (c1 == 3) = true := beq_iff_eq.mpr h3
            clear h3 hn1
            go_wp2_with (first
              | (go_at_call 20; refine k2.mono ?_; rintro e w2 ⟨rfl, ⟨nd, rfl⟩⟩; have HSX := Aside0.mk (HS.out.below (pw_below_drewN (Below.refl _ _) nd)); have HVX := Aside0.mk (hI _ _ _ HV.out (fun j _ => (rfl : (wr.drewN nd).heap[j]? = wr.heap[j]?))); have HBX := Aside0.mk (pw_below_drewN HB.out nd); clear k2)
  )
            go_roundg g1
            case measure => omega
            case rel =>
              have hn2 := HN.out
              exact ⟨κ + 1, s1, congrArg _ (show wrap64 (κ + 1) = κ + 1 from by unfold wrap64; omega), ⟨by omega⟩, HR2, HSX, HVX, HBX⟩
          · rw [if_neg h3] at R1
            have q4 : (c1 == 3) = false := beq_eq_false_iff_ne.mpr h3
            clear h3
            by_cases h5 : κ = (m : Int)
            · rw [if_pos h5] at R1
              have q5 : (κ == (m : Int)) = true := beq_iff_eq.mpr h5
              have kc : ∀ W : World, impl_parts.ST tell tb w0 B E A a.length c W (l ++ [κ]) → Inv s1 W → Calls Try.prog 18 #[.int .i64 ((m : Int) + 1), pt (E + 3), pt E, pt (E + 1), pt (E + 4)] W fun e w' => e = .returned (.tuple #[]) ∧ impl_parts.ST tell tb w0 B E A a.length c w' (l ++ [κ]) ∧ Inv s2 w' ∧ Below B W w' := fun W hS hV => IH.out (l ++ [κ]) (by have := HD.out; simp; omega) (m + 1) _ s1 s2 W (by omega) (by simp; omega) hS hV R1
              have hcut := cut_to (P := Try.prog) 22 3 .i64 Try.underlying22 hi0 (some ⟨E + 2, 0, none⟩) (l.length + 1) a.length (l.length : Int) (by omega) (by omega) (by omega)
              rw [Int.toNat_natCast] at hcut
              clear R1 hn1
              clear h5
              go_wp2_with (first
                | (go_at_call 20; refine k2.mono ?_; rintro e w2 ⟨rfl, ⟨nd, rfl⟩⟩; have HSX := Aside0.mk (HS.out.below (pw_below_drewN (Below.refl _ _) nd)); have HVX := Aside0.mk (hI _ _ _ HV.out (fun j _ => (rfl : (wr.drewN nd).heap[j]? = wr.heap[j]?))); have HBX := Aside0.mk (pw_below_drewN HB.out nd); clear k2)
                | (at_builtin; refine wpList_append_fits _ rfl (.tmp 32) (.tmp 34) 22 rfl (E + 2) 3 i0 1 Try.underlying22 hi0 hsz0 (E + 2) l.length a.length (enc l) rfl (HSX.out.bg.alloc _) ⟨(wr.drewN nd).heap.size, 0, none⟩ 1 1 [.int .i64 κ] rfl rfl one_cell one_one (by omega) ?_; intro w3 hown hg; have HS3 := Aside0.mk (HSX.out.push (by omega) hown hg); have hX := HSX.out.lt; have e3 : w3.heap[E + 3]? = some (.cells #[.slice (some ⟨E + 2, 0, none⟩) l.length a.length] 22 (0, 0)) := (hg.block (E + 3) (by simp; omega) (by simp)).trans ((Below.heap_alloc _ _ _ (by omega)).trans HSX.out.bl); have cb3 := cell_of_one e3; have fb3 := free_of_one e3; have cF3 := cell_of_one HS3.out.bf; have HG3 := Aside0.mk hg; have HV3 := Aside0.mk (show Inv s1 (w3.setCell ⟨E + 3, 0, none⟩ (.slice (some ⟨E + 2, 0, none⟩) (l.length + 1) a.length)) from hI _ _ _ HVX.out (fun j hj => by have hj2 := hJ j hj; exact (heap_setCell_other _ _ _ _ (by simp; omega)).trans ((hg.block j (by simp; omega) (by simp; omega)).trans (Below.heap_alloc _ _ _ (by omega))))); have HB3 := Aside0.mk (show Below B w (w3.setCell ⟨E + 3, 0, none⟩ (.slice (some ⟨E + 2, 0, none⟩) (l.length + 1) a.length)) from ((((HBX.out.alloc (by omega) _).grown hg (by simp; omega) (fun j hj => by cases hj; omega))).setCell (p := ⟨E + 3, 0, none⟩) (by simp; omega) _)); clear hown hg e3 hX)
                | (go_at_call 18; refine (kc _ HS3.out HV3.out).mono ?_; rintro e w4 ⟨rfl, hs, hi, hb⟩; have HV4 := Aside0.mk hi; have HB4 := Aside0.mk (HB3.out.trans hb); have HS4 := Aside0.mk hs; have hbl := hs.bl; rw [show (l ++ [κ]).length = l.length + 1 by simp] at hbl; have cb4 := cell_of_one hbl; have fb4 := free_of_one hbl; clear kc hs hi hb hbl cb3 fb3 cF3))
              go_roundg g1
              case measure => omega
              case rel =>
                have hn2 := HN.out
                exact ⟨κ + 1, s2, congrArg _ (show wrap64 (κ + 1) = κ + 1 from by unfold wrap64; omega), ⟨by omega⟩, HR2, ⟨HS4.out.pop⟩, ⟨hI _ _ _ HV4.out (fun j hj => by have := hJ j hj; exact heap_setCell_other _ _ _ _ (by simp; omega))⟩, ⟨HB4.out.setCell (p := ⟨E + 3, 0, none⟩) (by simp; omega) _⟩⟩
            · rw [if_neg h5] at R1
              have q5 : (κ == (m : Int)) = false := beq_eq_false_iff_ne.mpr h5
              have kc : ∀ W : World, impl_parts.ST tell tb w0 B E A a.length c W (l ++ [κ]) → Inv s1 W → Calls Try.prog 18 #[.int .i64 (m : Int), pt (E + 3), pt E, pt (E + 1), pt (E + 4)] W fun e w' => e = .returned (.tuple #[]) ∧ impl_parts.ST tell tb w0 B E A a.length c w' (l ++ [κ]) ∧ Inv s2 w' ∧ Below B W w' := fun W hS hV => IH.out (l ++ [κ]) (by have := HD.out; simp; omega) m _ s1 s2 W (by omega) (by simp; omega) hS hV R1
              have hcut := cut_to (P := Try.prog) 22 3 .i64 Try.underlying22 hi0 (some ⟨E + 2, 0, none⟩) (l.length + 1) a.length (l.length : Int) (by omega) (by omega) (by omega)
              rw [Int.toNat_natCast] at hcut
              clear R1 hn1
              clear h5
              go_wp2_with (first
                | (go_at_call 20; refine k2.mono ?_; rintro e w2 ⟨rfl, ⟨nd, rfl⟩⟩; have HSX := Aside0.mk (HS.out.below (pw_below_drewN (Below.refl _ _) nd)); have HVX := Aside0.mk (hI _ _ _ HV.out (fun j _ => (rfl : (wr.drewN nd).heap[j]? = wr.heap[j]?))); have HBX := Aside0.mk (pw_below_drewN HB.out nd); clear k2)
                | (at_builtin; refine wpList_append_fits _ rfl (.tmp 32) (.tmp 34) 22 rfl (E + 2) 3 i0 1 Try.underlying22 hi0 hsz0 (E + 2) l.length a.length (enc l) rfl (HSX.out.bg.alloc _) ⟨(wr.drewN nd).heap.size, 0, none⟩ 1 1 [.int .i64 κ] rfl rfl one_cell one_one (by omega) ?_; intro w3 hown hg; have HS3 := Aside0.mk (HSX.out.push (by omega) hown hg); have hX := HSX.out.lt; have e3 : w3.heap[E + 3]? = some (.cells #[.slice (some ⟨E + 2, 0, none⟩) l.length a.length] 22 (0, 0)) := (hg.block (E + 3) (by simp; omega) (by simp)).trans ((Below.heap_alloc _ _ _ (by omega)).trans HSX.out.bl); have cb3 := cell_of_one e3; have fb3 := free_of_one e3; have cF3 := cell_of_one HS3.out.bf; have HG3 := Aside0.mk hg; have HV3 := Aside0.mk (show Inv s1 (w3.setCell ⟨E + 3, 0, none⟩ (.slice (some ⟨E + 2, 0, none⟩) (l.length + 1) a.length)) from hI _ _ _ HVX.out (fun j hj => by have hj2 := hJ j hj; exact (heap_setCell_other _ _ _ _ (by simp; omega)).trans ((hg.block j (by simp; omega) (by simp; omega)).trans (Below.heap_alloc _ _ _ (by omega))))); have HB3 := Aside0.mk (show Below B w (w3.setCell ⟨E + 3, 0, none⟩ (.slice (some ⟨E + 2, 0, none⟩) (l.length + 1) a.length)) from ((((HBX.out.alloc (by omega) _).grown hg (by simp; omega) (fun j hj => by cases hj; omega))).setCell (p := ⟨E + 3, 0, none⟩) (by simp; omega) _)); clear hown hg e3 hX)
                | (go_at_call 18; refine (kc _ HS3.out HV3.out).mono ?_; rintro e w4 ⟨rfl, hs, hi, hb⟩; have HV4 := Aside0.mk hi; have HB4 := Aside0.mk (HB3.out.trans hb); have HS4 := Aside0.mk hs; have hbl := hs.bl; rw [show (l ++ [κ]).length = l.length + 1 by simp] at hbl; have cb4 := cell_of_one hbl; have fb4 := free_of_one hbl; clear kc hs hi hb hbl cb3 fb3 cF3))
              go_roundg g1
              case measure => omega
              case rel =>
                have hn2 := HN.out
                exact ⟨κ + 1, s2, congrArg _ (show wrap64 (κ + 1) = κ + 1 from by unfold wrap64; omega), ⟨by omega⟩, HR2, ⟨HS4.out.pop⟩, ⟨hI _ _ _ HV4.out (fun j hj => by have := hJ j hj; exact heap_setCell_other _ _ _ _ (by simp; omega))⟩, ⟨HB4.out.setCell (p := ⟨E + 3, 0, none⟩) (by simp; omega) _⟩⟩
        · rw [if_neg h0] at R1
          have q3 : decide ((0 : Int) ≤ κ) = false := decide_eq_false h0
          have h5 : ¬ κ = (m : Int) := by omega
          rw [if_neg h5] at R1
          have q5 : (κ == (m : Int)) = false := beq_eq_false_iff_ne.mpr h5
          have HSX := HS
          have HVX := HV
          have HBX := HB
          have kc : ∀ W : World, impl_parts.ST tell tb w0 B E A a.length c W (l ++ [κ]) → Inv s1 W → Calls Try.prog 18 #[.int .i64 (m : Int), pt (E + 3), pt E, pt (E + 1), pt (E + 4)] W fun e w' => e = .returned (.tuple #[]) ∧ impl_parts.ST tell tb w0 B E A a.length c w' (l ++ [κ]) ∧ Inv s2 w' ∧ Below B W w' := fun W hS hV => IH.out (l ++ [κ]) (by have := HD.out; simp; omega) m _ s1 s2 W (by omega) (by simp; omega) hS hV R1
          have hcut := cut_to (P := Try.prog) 22 3 .i64 Try.underlying22 hi0 (some ⟨E + 2, 0, none⟩) (l.length + 1) a.length (l.length : Int) (by omega) (by omega) (by omega)
          rw [Int.toNat_natCast] at hcut
          clear R1 hn1
          clear h5
          go_wp2_with (first
            | (at_builtin; refine wpList_append_fits _ rfl (.tmp 32) (.tmp 34) 22 rfl (E + 2) 3 i0 1 Try.underlying22 hi0 hsz0 (E + 2) l.length a.length (enc l) rfl (HSX.out.bg.alloc _) ⟨wr.heap.size, 0, none⟩ 1 1 [.int .i64 κ] rfl rfl one_cell one_one (by omega) ?_; intro w3 hown hg; have HS3 := Aside0.mk (HSX.out.push (by omega) hown hg); have hX := HSX.out.lt; have e3 : w3.heap[E + 3]? = some (.cells #[.slice (some ⟨E + 2, 0, none⟩) l.length a.length] 22 (0, 0)) := (hg.block (E + 3) (by simp; omega) (by simp)).trans ((Below.heap_alloc _ _ _ (by omega)).trans HSX.out.bl); have cb3 := cell_of_one e3; have fb3 := free_of_one e3; have cF3 := cell_of_one HS3.out.bf; have HG3 := Aside0.mk hg; have HV3 := Aside0.mk (show Inv s1 (w3.setCell ⟨E + 3, 0, none⟩ (.slice (some ⟨E + 2, 0, none⟩) (l.length + 1) a.length)) from hI _ _ _ HVX.out (fun j hj => by have hj2 := hJ j hj; exact (heap_setCell_other _ _ _ _ (by simp; omega)).trans ((hg.block j (by simp; omega) (by simp; omega)).trans (Below.heap_alloc _ _ _ (by omega))))); have HB3 := Aside0.mk (show Below B w (w3.setCell ⟨E + 3, 0, none⟩ (.slice (some ⟨E + 2, 0, none⟩) (l.length + 1) a.length)) from ((((HBX.out.alloc (by omega) _).grown hg (by simp; omega) (fun j hj => by cases hj; omega))).setCell (p := ⟨E + 3, 0, none⟩) (by simp; omega) _)); clear hown hg e3 hX)
            | (go_at_call 18; refine (kc _ HS3.out HV3.out).mono ?_; rintro e w4 ⟨rfl, hs, hi, hb⟩; have HV4 := Aside0.mk hi; have HB4 := Aside0.mk (HB3.out.trans hb); have HS4 := Aside0.mk hs; have hbl := hs.bl; rw [show (l ++ [κ]).length = l.length + 1 by simp] at hbl; have cb4 := cell_of_one hbl; have fb4 := free_of_one hbl; clear kc hs hi hb hbl cb3 fb3 cF3))
          go_roundg g1
          case measure => omega
          case rel =>
            have hn2 := HN.out
            exact ⟨κ + 1, s2, congrArg _ (show wrap64 (κ + 1) = κ + 1 from by unfold wrap64; omega), ⟨by omega⟩, HR2, ⟨HS4.out.pop⟩, ⟨hI _ _ _ HV4.out (fun j hj => by have := hJ j hj; exact heap_setCell_other _ _ _ _ (by simp; omega))⟩, ⟨HB4.out.setCell (p := ⟨E + 3, 0, none⟩) (by simp; omega) _⟩⟩
open Go.Proofs.Ytnpaaaponjcmkaa.HPrt Go.Proofs.Ytnpaaaponjcmkaa.HClo in
set_option maxHeartbeats 8000000 in
set_option maxRecDepth 100000 in
theorem impl_parts.calls {σ : Type} {k tell tb : Nat} {J : Nat → Prop} {Inv : σ → World → Prop} {step : σ → List Int → Option σ} (eg : ∀ args w, (callFunc tell args).run Try.prog w = .ok (.enter tell args) w) (w0 w : World) (A : Option Addr) (c : Nat) (a : List Int) (s s' : σ)
    (hT : impl_parts.Tells tell tb w0.heap.size w.heap.size J Inv step) (hJ : ∀ k, J k → w0.heap.size ≤ k ∧ k < w.heap.size) (hBw : w0.heap.size ≤ w.heap.size) (hI : ∀ s W W', Inv s W → (∀ k, J k → W'.heap[k]? = W.heap[k]?) → Inv s W')
    (hr0 : Kd.C (Kd.int .i64) w0 A a.length a) (hc0 : a.length ≤ c) (hb0 : Below w0.heap.size w0 w) (hinv : Inv s w) (h : impl_parts.f k step s a = some s') :
    Calls Try.prog 11 #[.slice A a.length c, .func (.func tell) #[] #[pt tb]] w fun e w' => e = .returned (.tuple #[]) ∧ Inv s' w' ∧ Below w0.heap.size w w' := by
  unfold impl_parts.f at h
  by_cases g1 : a.length < 1000
  · rw [if_pos g1] at h
    have hmf : ∀ (fn : Fn) (first cap : Array Value) (w : World), (Instr.makeFunc fn first cap).run Try.prog w = .ok (.func fn first cap) w := fun _ _ _ _ => rfl
    obtain ⟨i0, hi0, hz0, hsz0, hby0⟩ := info_parts (show (Try.prog.info? 3).map (fun i => (i.zero, i.size, i.bytes)) = some (some (.int .i64 0), 1, 8) by kernel_rfl)
    have hmk : ∀ (w : World), (Instr.makeSlice 22 (.int .i64 0) (.int .i64 (a.length : Int))).run Try.prog w = .ok (.slice (some ⟨w.heap.size, 0, none⟩) 0 a.length) (w.alloc (.cells (madeCells #[.int .i64 0] a.length) 3)) := fun w => by
      have hm := run_make (P := Try.prog) w 22 3 i0 (.int .i64 0) Try.underlying22 hi0 hz0 .i64 .i64 0 (a.length : Int) (by omega) (by omega) (by rw [hby0]; omega) (by omega)
      simp only [Int.toNat_zero, Int.toNat_natCast, hsz0, Nat.mul_one] at hm
      exact hm
    have e : ∀ (w : World) (o : Obj), (w.alloc o).heap.size = w.heap.size + 1 := fun w o => by simp
    have hS0 := made (ta := 22) (tt := 31) (tf := 33) (me := impl_parts.try w.heap.size) (tellv := .func (.func tell) #[] #[pt tb]) (w := w) (B := w0.heap.size) (A := A) (n := a.length) (c := c) hBw (by unfold maxLen; omega)
    have hBB : Below w0.heap.size w (((((w.alloc (.cells #[.slice A a.length c] 22)).alloc (.cells #[.func (.func tell) #[] #[pt tb]] 31)).alloc (.cells (madeCells #[.int .i64 0] a.length) 3)).alloc (.cells #[.slice (some ⟨w.heap.size + 2, 0, none⟩) 0 a.length] 22)).alloc (.cells #[impl_parts.try w.heap.size] 33)) :=
      ((((((Below.refl _ w).alloc hBw _).alloc (by simp only [e]; omega) _).alloc (by simp only [e]; omega) _).alloc (by simp only [e]; omega) _).alloc (by simp only [e]; omega) _)
    have hi2 := hI s w (((((w.alloc (.cells #[.slice A a.length c] 22)).alloc (.cells #[.func (.func tell) #[] #[pt tb]] 31)).alloc (.cells (madeCells #[.int .i64 0] a.length) 3)).alloc (.cells #[.slice (some ⟨w.heap.size + 2, 0, none⟩) 0 a.length] 22)).alloc (.cells #[impl_parts.try w.heap.size] 33)) hinv (fun k hk => by
      have := (hJ k hk).2
      exact alloc_old (by simp only [e]; omega) (alloc_old (by simp only [e]; omega) (alloc_old (by simp only [e]; omega) (alloc_old (by simp only [e]; omega) (alloc_old (by omega) rfl)))))
    have kd := impl_parts.try_calls (k := k) (B := w0.heap.size) (E := w.heap.size) (c := c) (A := A) (a := a) (J := J) (Inv := Inv) (step := step) (w0 := w0) eg hT hJ g1 hc0 (fun W hW => Kd.Heap.C (Kd.heap_int .i64) hW hr0) hI a.length [] (by simp) 0 0 s s' _ rfl (by simp) { hS0 with kept := fun k hk => (hS0.kept k hk).trans (hb0.block k hk) } hi2 h
    clear hT hJ hI hinv h eg hr0 hb0 hS0 hi2
    go_enter Try.func11, Try.ntmps11
    go_wp2_with (go_at_call 18; refine kd.mono ?_; rintro e w3 ⟨rfl, _, hi, hb⟩; have HI := Aside0.mk hi; have HB := Aside0.mk hb; clear kd hi hb)
    first | go_end0 | refine bodyPost_ret (results_none rfl _ _ _) rfl ?_
    exact ⟨rfl, HI.out, hBB.trans HB.out⟩
  · rw [if_neg g1] at h; cases h

/-! ### slices_Index_int_int: function 21 -/
def slices_Index_int_int.l0 : Nat → List Int → Int → Int → Int → Option (Int)
  | 0, _, _, _, _ => none
  | k + 1, x0, x1, x7, x8 => if x8 < x7 then (if 0 ≤ x8 then (if x8 < (x0.length : Int) then (if x1 = (rd x0 x8) then (some x8) else (slices_Index_int_int.l0 k x0 x1 x7 (wrap64 (x8 + 1)))) else (none)) else (none)) else (some (-1))
def slices_Index_int_int.f (k : Nat) (l0 : List Int) (a1 : Int) : Option (Int) := slices_Index_int_int.l0 k l0 a1 (l0.length : Int) 0
theorem slices_Index_int_int.mono_l : ∀ k, (∀ y0 y1 y2 y3, LeO (slices_Index_int_int.l0 k y0 y1 y2 y3) (slices_Index_int_int.l0 (k + 1) y0 y1 y2 y3))
  | 0 => fun _ _ _ _ r h => by simp [slices_Index_int_int.l0] at h
  | k + 1 => by
    have ih0 := slices_Index_int_int.mono_l k
    · intro y0 y1 y2 y3
      unfold slices_Index_int_int.l0
      repeat' first
      | (with_reducible exact ih0 _ _ _ _)
      | (with_reducible exact LeO.refl _)
      | (with_reducible exact LeO.none _)
      | (with_reducible refine LeO.ite ?_ ?_)
      | (with_reducible refine LeO.bind ?_ (fun _ => ?_))
      | exact ih0 _ _ _ _
      | exact LeO.none _
      | refine LeO.ite ?_ ?_
      | refine LeO.bind ?_ (fun _ => ?_)
theorem slices_Index_int_int.mono : ∀ a0 a1 k, LeO (slices_Index_int_int.f k a0 a1) (slices_Index_int_int.f (k + 1) a0 a1) := by
  intro a0 a1 k
  have ih0 := slices_Index_int_int.mono_l k
  unfold slices_Index_int_int.f
  repeat' first
      | (with_reducible exact ih0 _ _ _ _)
      | (with_reducible exact LeO.refl _)
      | (with_reducible exact LeO.none _)
      | (with_reducible refine LeO.ite ?_ ?_)
      | (with_reducible refine LeO.bind ?_ (fun _ => ?_))
      | exact ih0 _ _ _ _
      | exact LeO.none _
      | refine LeO.ite ?_ ?_
      | refine LeO.bind ?_ (fun _ => ?_)
set_option maxHeartbeats 8000000 in
set_option maxRecDepth 100000 in
theorem slices_Index_int_int.calls (k : Nat) (A0 : Option Addr) (c0 : Nat) (l0 : List Int) (a1 : Int) (r : Int) (w : World) (hr0 : Kd.C (Kd.int .i64) w A0 l0.length l0) (hc0 : l0.length ≤ c0) (h : slices_Index_int_int.f k l0 a1 = some r) :
    Calls Try.prog 21 #[.slice A0 l0.length c0, .int .i64 a1] w fun e w' => e = .returned (.int .i64 r) ∧ Drawn0 w w' := by
  have HR0 := Aside0.mk hr0
  have HC0 := Aside0.mk hc0
  clear hr0 hc0
  have H : (slices_Index_int_int.l0 k l0 a1 (l0.length : Int) 0) = some r := h
  clear h
  have H' := Aside0.mk H
  clear H
  go_enter Try.func21, Try.ntmps21
  go_wp2
  go_loopg [8] k (fun kq v8 w' => ∃ (x8_1 : Int), v8 = .int .i64 x8_1 ∧ Aside0 (slices_Index_int_int.l0 kq l0 a1 (l0.length : Int) x8_1 = some r) ∧ Aside0 (kq ≤ k) ∧ Drawn0 w w')
  case atStart => exact ⟨(0), (by first | rfl | (simp; done) | (simp [*]; done)), H', ⟨Nat.le_refl _⟩, by repeat (first | exact Drawn0.refl _ | apply Drawn0.step)⟩
  case round =>
    clear H'
    try clear c2
    try clear p2
    obtain ⟨x8_1, rfl, HA, HK1, ⟨m1, rfl⟩⟩ := hrel
    cases gk with
    | zero => exact absurd HA.out (by simp [slices_Index_int_int.l0])
    | succ k1 =>
      have H := HA.out
      clear HA
      simp only [slices_Index_int_int.l0] at H
      by_cases c3 : x8_1 < (l0.length : Int)
      · rw [if_pos c3] at H
        have c3b0 : decide (x8_1 < (l0.length : Int)) = true := decide_eq_true c3
        clear c3
        by_cases c4 : 0 ≤ x8_1
        · rw [if_pos c4] at H
          have c4b0 : decide (0 ≤ x8_1) = true := decide_eq_true c4
          clear c4
          by_cases c5 : x8_1 < (l0.length : Int)
          · rw [if_pos c5] at H
            have c5b0 : decide (x8_1 < (l0.length : Int)) = true := decide_eq_true c5
            clear c5
            by_cases c6 : a1 = (rd l0 x8_1)
            · rw [if_pos c6] at H
              have c6b0 : (a1 == (rd l0 x8_1)) = true := beq_iff_eq.mpr c6
              have c6b1 : (a1 != (rd l0 x8_1)) = false := bne_eq_false_iff_eq.mpr c6
              clear c6
              obtain rfl := Option.some.inj H
              have p147 : 0 ≤ (x8_1 : Int) := of_decide_eq_true (by first | (with_reducible assumption) | assumption)
              have q147 : x8_1 < (l0.length : Int) := of_decide_eq_true (by first | (with_reducible assumption) | assumption)
              obtain ⟨ad147, e147, hx147_0⟩ := Kd.at_int HR0.out x8_1 p147 q147
              cases e147
              replace p147 := eq_true p147
              replace q147 := eq_true q147
              go_wp2
              go_ret
              exact ⟨by first | rfl | (simp; done) | (simp [*]; done), by repeat (first | exact Drawn0.refl _ | apply Drawn0.step)⟩
            · rw [if_neg c6] at H
              have c6b0 : (a1 == (rd l0 x8_1)) = false := beq_eq_false_iff_ne.mpr c6
              have c6b1 : (a1 != (rd l0 x8_1)) = true := bne_iff_ne.mpr c6
              have H' := Aside0.mk H
              clear H
              have p147 : 0 ≤ (x8_1 : Int) := of_decide_eq_true (by first | (with_reducible assumption) | assumption)
              have q147 : x8_1 < (l0.length : Int) := of_decide_eq_true (by first | (with_reducible assumption) | assumption)
              obtain ⟨ad147, e147, hx147_0⟩ := Kd.at_int HR0.out x8_1 p147 q147
              cases e147
              replace p147 := eq_true p147
              replace q147 := eq_true q147
              go_wp2
              go_roundg k1
              case measure => have := HK1.out; omega
              case rel => exact ⟨(wrap64 (x8_1 + 1)), (by first | rfl | (simp; done) | (simp [*]; done)), H', ⟨by have := HK1.out; omega⟩, by repeat (first | exact Drawn0.refl _ | apply Drawn0.step)⟩
          · rw [if_neg c5] at H
            exact absurd H (by simp)
        · rw [if_neg c4] at H
          exact absurd H (by simp)
      · rw [if_neg c3] at H
        have c3b0 : decide (x8_1 < (l0.length : Int)) = false := decide_eq_false c3
        clear c3
        obtain rfl := Option.some.inj H
        go_wp2
        go_ret
        exact ⟨by first | rfl | (simp; done) | (simp [*]; done), by repeat (first | exact Drawn0.refl _ | apply Drawn0.step)⟩

/-! ### slices_Contains_int_int: function 13 -/
def slices_Contains_int_int.f (k : Nat) (l0 : List Int) (a1 : Int) : Option (Bool) := (slices_Index_int_int.f k l0 a1).bind fun t148 => (some (decide (t148 ≥ 0)))
theorem slices_Contains_int_int.mono : ∀ a0 a1 k, LeO (slices_Contains_int_int.f k a0 a1) (slices_Contains_int_int.f (k + 1) a0 a1) := by
  intro a0 a1 k
  unfold slices_Contains_int_int.f
  repeat' first
      | (with_reducible exact slices_Index_int_int.mono _ _ _)
      | (with_reducible exact LeO.refl _)
      | (with_reducible exact LeO.none _)
      | (with_reducible refine LeO.ite ?_ ?_)
      | (with_reducible refine LeO.bind ?_ (fun _ => ?_))
      | exact slices_Index_int_int.mono _ _ _
      | exact LeO.none _
      | refine LeO.ite ?_ ?_
      | refine LeO.bind ?_ (fun _ => ?_)
set_option maxHeartbeats 8000000 in
set_option maxRecDepth 100000 in
theorem slices_Contains_int_int.calls (k : Nat) (A0 : Option Addr) (c0 : Nat) (l0 : List Int) (a1 : Int) (r : Bool) (w : World) (hr0 : Kd.C (Kd.int .i64) w A0 l0.length l0) (hc0 : l0.length ≤ c0) (h : slices_Contains_int_int.f k l0 a1 = some r) :
    Calls Try.prog 13 #[.slice A0 l0.length c0, .int .i64 a1] w fun e w' => e = .returned (.bool r) ∧ Drawn0 w w' := by
  have HR0 := Aside0.mk hr0
  have HC0 := Aside0.mk hc0
  clear hr0 hc0
  have H : ((slices_Index_int_int.f k l0 a1).bind fun t148 => (some (decide (t148 ≥ 0)))) = some r := h
  clear h
  replace H := Option.bind_eq_some_iff.mp H
  obtain ⟨t148, A30, H⟩ := H
  replace H : (some (decide (t148 ≥ 0))) = some r := H
  have A3 := Aside0.mk A30
  clear A30
  obtain rfl := Option.some.inj H
  go_enter Try.func13, Try.ntmps13
  go_wp2_with (first | ((with_reducible refine gate_callee (f := 21) rfl ?_); refine goesL_ (some 7) rfl rfl Try.func21 (by kernel_rfl) rfl #[.slice A0 l0.length c0, .int .i64 a1] rfl (by (try simp only [List.map_toArray, List.map_cons, List.map_nil]); first | done | rfl | (simp only [List.length_drop, List.length_take]; rfl)) ?_; (with_reducible refine (slices_Index_int_int.calls k _ _ l0 a1 t148 _ ?side1 ?side2 A3.out).mono ?_); (case side1 => repeat (first | exact HR0.out | (with_reducible refine Kd.C_alloc ?_ _) | (with_reducible refine Kd.C_drewN ?_ _) | (with_reducible refine Kd.C_drew ?_))); (case side2 => exact HC0.out); rintro e w' ⟨rfl, ⟨nd, rfl⟩⟩; refine ⟨_, rfl, ?_⟩))
  go_ret
  exact ⟨by first | rfl | (simp; done) | (simp [*]; done), by repeat (first | exact Drawn0.refl _ | apply Drawn0.step)⟩

-- NOT PRINTED: function 12 (impl_PartWays_1)

/-! ### impl_PartWays: function 6, by hand -/
def impl_PartWays.step (k : Nat) (n : Int) (q : List Int) : Option Int := (slices_Contains_int_int.f k q (-1)).bind fun t => if t = true then some n else some (wrap64 (n + 1))
def impl_PartWays.f (k : Nat) (l0 : List Int) : Option (Int × Bool) := (impl_StickIn.f k l0).bind fun t => if t = true then ((impl_parts.f k (impl_PartWays.step k) 0 l0).bind fun r => some (r, true)) else some (0, false)
theorem impl_PartWays.mono : ∀ a0 k, LeO (impl_PartWays.f k a0) (impl_PartWays.f (k + 1) a0) := by
  intro a0 k
  unfold impl_PartWays.f
  refine LeO.bind (impl_StickIn.mono _ _) (fun t => LeO.ite (LeO.bind ?_ (fun _ => LeO.refl _)) (LeO.refl _))
  unfold impl_parts.f
  exact LeO.ite (Go.Proofs.Ytnpaaaponjcmkaa.HPrt.mono_vis (fun l m => impl_partsFit.mono _ _ _ _) (fun l i => impl_countOf.mono _ _ _) (fun s q => LeO.bind (slices_Contains_int_int.mono _ _ _) (fun _ => LeO.refl _)) _ _ _ _) (LeO.refl _)
open Go.Proofs.Ytnpaaaponjcmkaa.HPrt in
set_option maxHeartbeats 8000000 in
set_option maxRecDepth 100000 in
theorem impl_PartWays.tells (k bm B E : Nat) (hB : B ≤ bm) : impl_parts.Tells 12 bm B E (fun j => j = bm) (fun m W => W.heap[bm]? = some (.cells #[.int .i64 m] 3 (0, 0))) (impl_PartWays.step k) := by
  intro W A c ys s s' hC hc hinv hE h
  obtain ⟨t, h1, h⟩ := Option.bind_eq_some_iff.mp h
  have kA := slices_Contains_int_int.calls k A c ys (-1) t W hC hc h1
  have c1 := cell_of_one hinv
  have f1 := free_of_one hinv
  have HI := Aside0.mk hinv
  clear hinv hC h1
  cases t with
  | true =>
    rw [if_pos rfl] at h
    obtain rfl := Option.some.inj h
    clear h
    go_enter Try.func12, Try.ntmps12
    go_wp2_with (go_at_call 13; refine kA.mono ?_; rintro e w1 ⟨rfl, ⟨nd, rfl⟩⟩; clear kA)
    all_goals (first | go_end0 | refine bodyPost_ret (results_none rfl _ _ _) rfl ?_)
    all_goals exact ⟨rfl, HI.out, pw_below_drewN (Below.refl B W) nd, fun j hj hne => rfl⟩
  | false =>
    rw [if_neg (by decide)] at h
    obtain rfl := Option.some.inj h
    clear h
    go_enter Try.func12, Try.ntmps12
    go_wp2_with (go_at_call 13; refine kA.mono ?_; rintro e w1 ⟨rfl, ⟨nd, rfl⟩⟩; clear kA)
    all_goals (first | go_end0 | refine bodyPost_ret (results_none rfl _ _ _) rfl ?_)
    all_goals exact ⟨rfl, one_setCell (w := W.drewN nd) HI.out, ((pw_below_drewN (Below.refl B W) nd).setCell (p := ⟨bm, 0, none⟩) hB _), fun j hj hne => (heap_setCell_other _ _ _ _ hne).trans rfl⟩
open Go.Proofs.Ytnpaaaponjcmkaa.HPrt in
set_option maxHeartbeats 8000000 in
set_option maxRecDepth 100000 in
theorem impl_PartWays.calls (k : Nat) (A0 : Option Addr) (c0 : Nat) (l0 : List Int) (r1 : Int) (r2 : Bool) (w : World) (hr0 : Kd.C (Kd.int .i64) w A0 l0.length l0) (hc0 : l0.length ≤ c0) (h : impl_PartWays.f k l0 = some (r1, r2)) :
    Calls Try.prog 6 #[.slice A0 l0.length c0] w fun e w' => e = .returned (.tuple #[.int .i64 r1, .bool r2]) ∧ Below w.heap.size w w' := by
  have hmf : ∀ (fn : Fn) (first cap : Array Value) (w : World), (Instr.makeFunc fn first cap).run Try.prog w = .ok (.func fn first cap) w := fun _ _ _ _ => rfl
  unfold impl_PartWays.f at h
  obtain ⟨t, h1, h⟩ := Option.bind_eq_some_iff.mp h
  have k1 := impl_StickIn.calls k A0 c0 l0 t w hr0 hc0 h1
  clear h1
  cases t with
  | false =>
    rw [if_neg (by decide)] at h
    injection h with h
    injection h with h2 h3
    subst h2 h3
    go_enter Try.func6, Try.ntmps6
    go_wp2_with (go_at_call 10; refine k1.mono ?_; rintro e w1 ⟨rfl, ⟨nd, rfl⟩⟩; clear k1)
    go_ret2
    exact ⟨rfl, pw_below_drewN (Below.refl _ _) _⟩
  | true =>
    rw [if_pos rfl] at h
    obtain ⟨r, h3, h⟩ := Option.bind_eq_some_iff.mp h
    injection h with h
    injection h with h4 h5
    subst h4 h5
    have k3 : ∀ nd, Calls Try.prog 11 #[.slice A0 l0.length c0, .func (.func 12) #[] #[pt w.heap.size]] ((w.drewN nd).alloc (.cells #[.int .i64 0] 3)) fun e w' => e = .returned (.tuple #[]) ∧ w'.heap[w.heap.size]? = some (.cells #[.int .i64 r] 3 (0, 0)) ∧ Below w.heap.size ((w.drewN nd).alloc (.cells #[.int .i64 0] 3)) w' := fun nd => by
      have e1 : ((w.drewN nd).alloc (.cells #[.int .i64 0] 3)).heap.size = w.heap.size + 1 := by simp
      exact impl_parts.calls (k := k) (tell := 12) (tb := w.heap.size) (J := fun j => j = w.heap.size) (Inv := fun m W => W.heap[w.heap.size]? = some (.cells #[.int .i64 m] 3 (0, 0))) (step := impl_PartWays.step k) (enters_of Try.func12 (by kernel_rfl) rfl) w _ A0 c0 l0 0 r
        (impl_PartWays.tells k _ _ _ (Nat.le_refl _)) (fun j hj => by rw [e1]; have : j = w.heap.size := hj; omega) (by rw [e1]; omega) (fun s W W' hI hJ => (hJ _ rfl).trans hI) hr0 hc0 ((pw_below_drewN (Below.refl _ w) nd).alloc (Nat.le_refl _) _) (Go.Proofs.Ytnpaaaponjcmkaa.HClo.alloc_new _ _ _ rfl) h3
    have fc : ∀ j, ((w.drewN j).alloc (.cells #[.int .i64 0] 3)).cell? ⟨w.heap.size, 0, none⟩ = some (.int .i64 0) := fun j => cell_of_one (Go.Proofs.Ytnpaaaponjcmkaa.HClo.alloc_new (w.drewN j) _ _ rfl)
    have ff : ∀ j, ((w.drewN j).alloc (.cells #[.int .i64 0] 3)).frozen? ⟨w.heap.size, 0, none⟩ = false := fun j => free_of_one (Go.Proofs.Ytnpaaaponjcmkaa.HClo.alloc_new (w.drewN j) _ _ rfl)
    have fs : ∀ j v, ((w.drewN j).alloc (.cells #[.int .i64 0] 3)).setCell ⟨w.heap.size, 0, none⟩ v = (w.drewN j).alloc (.cells #[v] 3) := fun j v => World.setCell_alloc_at _ _ _ _ _ rfl
    clear h3 hr0
    go_enter Try.func6, Try.ntmps6
    go_wp2_with (first | (go_at_call 10; refine k1.mono ?_; rintro e w1 ⟨rfl, ⟨nd, rfl⟩⟩; clear k1) | (go_at_call 11; refine (k3 _).mono ?_; rintro e w1 ⟨rfl, hi, hb⟩; have c1 := cell_of_one hi; have HB := Aside0.mk hb; clear k3 hi hb))
    go_ret2
    exact ⟨rfl, ((pw_below_drewN (Below.refl _ w) _).alloc (Nat.le_refl _) _).trans HB.out⟩

/-! ### laws_eqIntS: function 7 -/
def laws_eqIntS.l0 : Nat → List Int → List Int → Int → Option (Bool)
  | 0, _, _, _ => none
  | k + 1, x0, x1, x5 => if x5 < (x0.length : Int) then (if 0 ≤ x5 then (if x5 < (x1.length : Int) then (if (rd x0 x5) = (rd x1 x5) then (laws_eqIntS.l0 k x0 x1 (wrap64 (x5 + 1))) else (some false)) else (none)) else (none)) else (some true)
def laws_eqIntS.f (k : Nat) (l0 : List Int) (l1 : List Int) : Option (Bool) := if (l0.length : Int) = (l1.length : Int) then (laws_eqIntS.l0 k l0 l1 0) else (some false)
theorem laws_eqIntS.mono_l : ∀ k, (∀ y0 y1 y2, LeO (laws_eqIntS.l0 k y0 y1 y2) (laws_eqIntS.l0 (k + 1) y0 y1 y2))
  | 0 => fun _ _ _ r h => by simp [laws_eqIntS.l0] at h
  | k + 1 => by
    have ih0 := laws_eqIntS.mono_l k
    · intro y0 y1 y2
      unfold laws_eqIntS.l0
      repeat' first
      | (with_reducible exact ih0 _ _ _)
      | (with_reducible exact LeO.refl _)
      | (with_reducible exact LeO.none _)
      | (with_reducible refine LeO.ite ?_ ?_)
      | (with_reducible refine LeO.bind ?_ (fun _ => ?_))
      | exact ih0 _ _ _
      | exact LeO.none _
      | refine LeO.ite ?_ ?_
      | refine LeO.bind ?_ (fun _ => ?_)
theorem laws_eqIntS.mono : ∀ a0 a1 k, LeO (laws_eqIntS.f k a0 a1) (laws_eqIntS.f (k + 1) a0 a1) := by
  intro a0 a1 k
  have ih0 := laws_eqIntS.mono_l k
  unfold laws_eqIntS.f
  repeat' first
      | (with_reducible exact ih0 _ _ _)
      | (with_reducible exact LeO.refl _)
      | (with_reducible exact LeO.none _)
      | (with_reducible refine LeO.ite ?_ ?_)
      | (with_reducible refine LeO.bind ?_ (fun _ => ?_))
      | exact ih0 _ _ _
      | exact LeO.none _
      | refine LeO.ite ?_ ?_
      | refine LeO.bind ?_ (fun _ => ?_)
set_option maxHeartbeats 8000000 in
set_option maxRecDepth 100000 in
theorem laws_eqIntS.calls (k : Nat) (A0 : Option Addr) (c0 : Nat) (l0 : List Int) (A1 : Option Addr) (c1 : Nat) (l1 : List Int) (r : Bool) (w : World) (hr0 : Kd.C (Kd.int .i64) w A0 l0.length l0) (hc0 : l0.length ≤ c0) (hr1 : Kd.C (Kd.int .i64) w A1 l1.length l1) (hc1 : l1.length ≤ c1) (h : laws_eqIntS.f k l0 l1 = some r) :
    Calls Try.prog 7 #[.slice A0 l0.length c0, .slice A1 l1.length c1] w fun e w' => e = .returned (.bool r) ∧ Drawn0 w w' := by
  have HR0 := Aside0.mk hr0
  have HC0 := Aside0.mk hc0
  clear hr0 hc0
  have HR1 := Aside0.mk hr1
  have HC1 := Aside0.mk hc1
  clear hr1 hc1
  have H : (if (l0.length : Int) = (l1.length : Int) then (laws_eqIntS.l0 k l0 l1 0) else (some false)) = some r := h
  clear h
  by_cases c3 : (l0.length : Int) = (l1.length : Int)
  · rw [if_pos c3] at H
    have c3b0 : ((l0.length : Int) == (l1.length : Int)) = true := beq_iff_eq.mpr c3
    have c3b1 : ((l0.length : Int) != (l1.length : Int)) = false := bne_eq_false_iff_eq.mpr c3
    have c3b2 : (l0.length == l1.length) = true := by first | simpa using c3 | (simp at c3 ⊢; omega)
    clear c3
    have H' := Aside0.mk H
    clear H
    go_enter Try.func7, Try.ntmps7
    go_wp2
    repeat (go_quiet (fail); try go_wp2)
    go_loopg [5] k (fun kq v5 w' => ∃ (x5_1 : Int), v5 = .int .i64 x5_1 ∧ Aside0 (laws_eqIntS.l0 kq l0 l1 x5_1 = some r) ∧ Aside0 (kq ≤ k) ∧ Drawn0 w w')
    case atStart => exact ⟨(0), (by first | rfl | (simp; done) | (simp [*]; done)), H', ⟨Nat.le_refl _⟩, by repeat (first | exact Drawn0.refl _ | apply Drawn0.step)⟩
    case round =>
      clear H'
      try clear c1
      try clear p2
      try clear c3
      try clear c3b0
      try clear c3b1
      try clear c3b2
      obtain ⟨x5_1, rfl, HA, HK1, ⟨m1, rfl⟩⟩ := hrel
      cases gk with
      | zero => exact absurd HA.out (by simp [laws_eqIntS.l0])
      | succ k1 =>
        have H := HA.out
        clear HA
        simp only [laws_eqIntS.l0] at H
        by_cases c4 : x5_1 < (l0.length : Int)
        · rw [if_pos c4] at H
          have c4b0 : decide (x5_1 < (l0.length : Int)) = true := decide_eq_true c4
          clear c4
          by_cases c5 : 0 ≤ x5_1
          · rw [if_pos c5] at H
            have c5b0 : decide (0 ≤ x5_1) = true := decide_eq_true c5
            clear c5
            by_cases c6 : x5_1 < (l1.length : Int)
            · rw [if_pos c6] at H
              have c6b0 : decide (x5_1 < (l1.length : Int)) = true := decide_eq_true c6
              clear c6
              by_cases c7 : (rd l0 x5_1) = (rd l1 x5_1)
              · rw [if_pos c7] at H
                have c7b0 : ((rd l0 x5_1) == (rd l1 x5_1)) = true := beq_iff_eq.mpr c7
                have c7b1 : ((rd l0 x5_1) != (rd l1 x5_1)) = false := bne_eq_false_iff_eq.mpr c7
                clear c7
                have H' := Aside0.mk H
                clear H
                have p149 : 0 ≤ (x5_1 : Int) := of_decide_eq_true (by first | (with_reducible assumption) | assumption)
                have q149 : x5_1 < (l0.length : Int) := of_decide_eq_true (by first | (with_reducible assumption) | assumption)
                obtain ⟨ad149, e149, hx149_0⟩ := Kd.at_int HR0.out x5_1 p149 q149
                cases e149
                replace p149 := eq_true p149
                replace q149 := eq_true q149
                have p150 : 0 ≤ (x5_1 : Int) := of_decide_eq_true (by first | (with_reducible assumption) | assumption)
                have q150 : x5_1 < (l1.length : Int) := of_decide_eq_true (by first | (with_reducible assumption) | assumption)
                obtain ⟨ad150, e150, hx150_0⟩ := Kd.at_int HR1.out x5_1 p150 q150
                cases e150
                replace p150 := eq_true p150
                replace q150 := eq_true q150
                go_wp2
                repeat (go_quiet (fail); try go_wp2)
                go_roundg k1
                case measure => have := HK1.out; omega
                case rel => exact ⟨(wrap64 (x5_1 + 1)), (by first | rfl | (simp; done) | (simp [*]; done)), H', ⟨by have := HK1.out; omega⟩, by repeat (first | exact Drawn0.refl _ | apply Drawn0.step)⟩
              · rw [if_neg c7] at H
                have c7b0 : ((rd l0 x5_1) == (rd l1 x5_1)) = false := beq_eq_false_iff_ne.mpr c7
                have c7b1 : ((rd l0 x5_1) != (rd l1 x5_1)) = true := bne_iff_ne.mpr c7
                obtain rfl := Option.some.inj H
                have p149 : 0 ≤ (x5_1 : Int) := of_decide_eq_true (by first | (with_reducible assumption) | assumption)
                have q149 : x5_1 < (l0.length : Int) := of_decide_eq_true (by first | (with_reducible assumption) | assumption)
                obtain ⟨ad149, e149, hx149_0⟩ := Kd.at_int HR0.out x5_1 p149 q149
                cases e149
                replace p149 := eq_true p149
                replace q149 := eq_true q149
                have p150 : 0 ≤ (x5_1 : Int) := of_decide_eq_true (by first | (with_reducible assumption) | assumption)
                have q150 : x5_1 < (l1.length : Int) := of_decide_eq_true (by first | (with_reducible assumption) | assumption)
                obtain ⟨ad150, e150, hx150_0⟩ := Kd.at_int HR1.out x5_1 p150 q150
                cases e150
                replace p150 := eq_true p150
                replace q150 := eq_true q150
                go_wp2
                repeat (go_quiet (fail); try go_wp2)
                go_ret
                exact ⟨by first | rfl | (simp; done) | (simp [*]; done), by repeat (first | exact Drawn0.refl _ | apply Drawn0.step)⟩
            · rw [if_neg c6] at H
              exact absurd H (by simp)
          · rw [if_neg c5] at H
            exact absurd H (by simp)
        · rw [if_neg c4] at H
          have c4b0 : decide (x5_1 < (l0.length : Int)) = false := decide_eq_false c4
          clear c4
          obtain rfl := Option.some.inj H
          go_wp2
          repeat (go_quiet (fail); try go_wp2)
          go_ret
          exact ⟨by first | rfl | (simp; done) | (simp [*]; done), by repeat (first | exact Drawn0.refl _ | apply Drawn0.step)⟩
  · rw [if_neg c3] at H
    have c3b0 : ((l0.length : Int) == (l1.length : Int)) = false := beq_eq_false_iff_ne.mpr c3
    have c3b1 : ((l0.length : Int) != (l1.length : Int)) = true := bne_iff_ne.mpr c3
    have c3b2 : (l0.length == l1.length) = false := by first | simpa using c3 | (simp at c3 ⊢; omega)
    obtain rfl := Option.some.inj H
    go_enter Try.func7, Try.ntmps7
    go_wp2
    repeat (go_quiet (fail); try go_wp2)
    go_ret
    exact ⟨by first | rfl | (simp; done) | (simp [*]; done), by repeat (first | exact Drawn0.refl _ | apply Drawn0.step)⟩

/-! ### laws_FnExactPartWays: function 3 -/
def laws_FnExactPartWays.j0 : Nat → List Int → List Int → Bool → Option (Bool)
  | 0, _, _, _ => none
  | k + 1, x0, x5, x31 => if x31 = true then (some false) else ((laws_toIntS.f k x0).bind fun t161 => ((laws_eqIntS.f k x5 t161).bind fun t164 => (if t164 = true then (some true) else (some false))))
def laws_FnExactPartWays.f (k : Nat) (l0 : List Int) : Option (Bool) := if (l0.length : Int) > 1048576 then (some true) else ((laws_toIntS.f k l0).bind fun t151 => ((spec_PartWays.f k t151).bind fun bt154 => ((laws_toIntS.f k l0).bind fun t156 => ((impl_PartWays.f k t156).bind fun bt159 => (if bt159.1 = bt154.1 then (laws_FnExactPartWays.j0 k l0 t156 (bt159.2 != bt154.2)) else (laws_FnExactPartWays.j0 k l0 t156 true))))))
theorem laws_FnExactPartWays.mono_l : ∀ k, (∀ y0 y1 y2, LeO (laws_FnExactPartWays.j0 k y0 y1 y2) (laws_FnExactPartWays.j0 (k + 1) y0 y1 y2))
  | 0 => fun _ _ _ r h => by simp [laws_FnExactPartWays.j0] at h
  | k + 1 => by
    have ih0 := laws_FnExactPartWays.mono_l k
    · intro y0 y1 y2
      unfold laws_FnExactPartWays.j0
      repeat' first
      | (with_reducible exact ih0 _ _ _)
      | (with_reducible exact impl_PartWays.mono _ _)
      | (with_reducible exact laws_eqIntS.mono _ _ _)
      | (with_reducible exact laws_toIntS.mono _ _)
      | (with_reducible exact spec_PartWays.mono _ _)
      | (with_reducible exact LeO.refl _)
      | (with_reducible exact LeO.none _)
      | (with_reducible refine LeO.ite ?_ ?_)
      | (with_reducible refine LeO.bind ?_ (fun _ => ?_))
      | exact ih0 _ _ _
      | exact impl_PartWays.mono _ _
      | exact laws_eqIntS.mono _ _ _
      | exact laws_toIntS.mono _ _
      | exact spec_PartWays.mono _ _
      | exact LeO.none _
      | refine LeO.ite ?_ ?_
      | refine LeO.bind ?_ (fun _ => ?_)
theorem laws_FnExactPartWays.mono : ∀ a0 k, LeO (laws_FnExactPartWays.f k a0) (laws_FnExactPartWays.f (k + 1) a0) := by
  intro a0 k
  have ih0 := laws_FnExactPartWays.mono_l k
  unfold laws_FnExactPartWays.f
  repeat' first
      | (with_reducible exact ih0 _ _ _)
      | (with_reducible exact impl_PartWays.mono _ _)
      | (with_reducible exact laws_eqIntS.mono _ _ _)
      | (with_reducible exact laws_toIntS.mono _ _)
      | (with_reducible exact spec_PartWays.mono _ _)
      | (with_reducible exact LeO.refl _)
      | (with_reducible exact LeO.none _)
      | (with_reducible refine LeO.ite ?_ ?_)
      | (with_reducible refine LeO.bind ?_ (fun _ => ?_))
      | exact ih0 _ _ _
      | exact impl_PartWays.mono _ _
      | exact laws_eqIntS.mono _ _ _
      | exact laws_toIntS.mono _ _
      | exact spec_PartWays.mono _ _
      | exact LeO.none _
      | refine LeO.ite ?_ ?_
      | refine LeO.bind ?_ (fun _ => ?_)
set_option maxHeartbeats 8000000 in
set_option maxRecDepth 100000 in
theorem laws_FnExactPartWays.calls (k : Nat) (A0 : Option Addr) (c0 : Nat) (l0 : List Int) (r : Bool) (w : World) (hr0 : Kd.C (Kd.int .i64) w A0 l0.length l0) (hc0 : l0.length ≤ c0) (h : laws_FnExactPartWays.f k l0 = some r) :
    Calls Try.prog 3 #[.slice A0 l0.length c0] w fun e w' => e = .returned (.bool r) ∧ Below w.heap.size w w' := by
  have HR0 := Aside0.mk hr0
  have HC0 := Aside0.mk hc0
  clear hr0 hc0
  have HB := Aside0.mk (Below.refl w.heap.size w)
  have H : (if (l0.length : Int) > 1048576 then (some true) else ((laws_toIntS.f k l0).bind fun t151 => ((spec_PartWays.f k t151).bind fun bt154 => ((laws_toIntS.f k l0).bind fun t156 => ((impl_PartWays.f k t156).bind fun bt159 => (if bt159.1 = bt154.1 then (laws_FnExactPartWays.j0 k l0 t156 (bt159.2 != bt154.2)) else (laws_FnExactPartWays.j0 k l0 t156 true))))))) = some r := h
  clear h
  by_cases c2 : (l0.length : Int) > 1048576
  · rw [if_pos c2] at H
    have c2b0 : decide (1048576 < (l0.length : Int)) = true := decide_eq_true c2
    have c2b1 : decide (1048576 < l0.length) = true := decide_eq_true (by omega)
    clear c2
    obtain rfl := Option.some.inj H
    go_enter Try.func3, Try.ntmps3
    go_wp2
    go_ret
    exact ⟨by first | rfl | (simp [errW_none, errW_some] <;> rfl) | (simp [*, errW_none, errW_some] <;> rfl), by repeat (first | (with_reducible first | exact HB.out | apply below_alloc | apply pw_below_drewN | apply below_drew1) | exact HB.out)⟩
  · rw [if_neg c2] at H
    have c2b0 : decide (1048576 < (l0.length : Int)) = false := decide_eq_false c2
    have c2b1 : decide (1048576 < l0.length) = false := decide_eq_false (by omega)
    clear c2
    replace H := Option.bind_eq_some_iff.mp H
    obtain ⟨t151, A30, H⟩ := H
    replace H : ((spec_PartWays.f k t151).bind fun bt154 => ((laws_toIntS.f k l0).bind fun t156 => ((impl_PartWays.f k t156).bind fun bt159 => (if bt159.1 = bt154.1 then (laws_FnExactPartWays.j0 k l0 t156 (bt159.2 != bt154.2)) else (laws_FnExactPartWays.j0 k l0 t156 true))))) = some r := H
    have A3 := Aside0.mk A30
    clear A30
    replace H := Option.bind_eq_some_iff.mp H
    obtain ⟨⟨t154, t155⟩, A40, H⟩ := H
    replace H : ((laws_toIntS.f k l0).bind fun t156 => ((impl_PartWays.f k t156).bind fun bt159 => (if bt159.1 = t154 then (laws_FnExactPartWays.j0 k l0 t156 (bt159.2 != t155)) else (laws_FnExactPartWays.j0 k l0 t156 true)))) = some r := H
    have A4 := Aside0.mk A40
    clear A40
    replace H := Option.bind_eq_some_iff.mp H
    obtain ⟨t156, A50, H⟩ := H
    replace H : ((impl_PartWays.f k t156).bind fun bt159 => (if bt159.1 = t154 then (laws_FnExactPartWays.j0 k l0 t156 (bt159.2 != t155)) else (laws_FnExactPartWays.j0 k l0 t156 true))) = some r := H
    have A5 := Aside0.mk A50
    clear A50
    replace H := Option.bind_eq_some_iff.mp H
    obtain ⟨⟨t159, t160⟩, A60, H⟩ := H
    replace H : (if t159 = t154 then (laws_FnExactPartWays.j0 k l0 t156 (t160 != t155)) else (laws_FnExactPartWays.j0 k l0 t156 true)) = some r := H
    have A6 := Aside0.mk A60
    clear A60
    have HC7 := Aside0.mk H
    clear H
    go_enter Try.func3, Try.ntmps3
    go_upto_region 6 with (first | ((with_reducible refine gate_callee (f := 5) rfl ?_); refine goesL_ (some 13) rfl rfl Try.func5 (by kernel_rfl) rfl #[.slice A0 l0.length c0] rfl (by (try simp only [List.map_toArray, List.map_cons, List.map_nil]); first | done | rfl | (simp only [List.length_drop, List.length_take]; rfl)) ?_; (with_reducible refine (laws_toIntS.calls k _ _ l0 t151 _ ?side1 ?side2 A3.out).mono ?_); (case side1 => repeat (first | exact HR0.out | (with_reducible refine Kd.C_alloc ?_ _) | (with_reducible refine Kd.C_drewN ?_ _) | (with_reducible refine Kd.C_drew ?_))); (case side2 => exact HC0.out); rintro e w8 ⟨v152, rfl, ho0, hb⟩; refine ⟨_, rfl, ?_⟩; have n0_ := Aside0.mk (Kd.R_lower ho0 (below_size (by repeat (first | (with_reducible first | exact HB.out | apply below_alloc | apply pw_below_drewN | apply below_drew1) | exact HB.out)))); have n1_ := Aside0.mk (below_step (by repeat (first | (with_reducible first | exact HB.out | apply below_alloc | apply pw_below_drewN | apply below_drew1) | exact HB.out)) hb); clear HB; have HO153 := n0_; have HB := n1_; clear n0_ n1_; (try clear hb); (try clear hb2); (try clear hk); (try clear hi); (try clear ho0); obtain ⟨Ao9, co9, eo9⟩ := Kd.R_slice HO153.out; subst eo9) | ((with_reducible refine gate_callee (f := 4) rfl ?_); refine goesL_ (some 14) rfl rfl Try.func4 (by kernel_rfl) rfl #[.slice Ao9 t151.length co9] rfl (by (try simp only [List.map_toArray, List.map_cons, List.map_nil]); first | done | rfl | (simp only [List.length_drop, List.length_take]; rfl)) ?_; (with_reducible refine (spec_PartWays.calls k _ _ t151 t154 t155 _ ?side1 ?side2 A4.out).mono ?_); (case side1 => repeat (first | exact (Kd.R_reads' HO153.out).2.2 | (with_reducible refine Kd.C_alloc ?_ _) | (with_reducible refine Kd.C_drewN ?_ _) | (with_reducible refine Kd.C_drew ?_))); (case side2 => exact (Kd.R_reads' HO153.out).2.1); rintro e w10 ⟨rfl, hb⟩; refine ⟨_, rfl, ?_⟩; have n0_ := Aside0.mk (Kd.R_below (by (with_reducible repeat (first | apply Kd.R_alloc | apply Kd.R_drewN | apply Kd.R_drew)); exact HO153.out) hb); have n1_ := Aside0.mk (below_step (by repeat (first | (with_reducible first | exact HB.out | apply below_alloc | apply pw_below_drewN | apply below_drew1) | exact HB.out)) hb); clear HO153; clear HB; have HO153 := n0_; have HB := n1_; clear n0_ n1_; (try clear hb); (try clear hb2); (try clear hk); (try clear hi)) | ((with_reducible refine gate_callee (f := 5) rfl ?_); refine goesL_ (some 18) rfl rfl Try.func5 (by kernel_rfl) rfl #[.slice A0 l0.length c0] rfl (by (try simp only [List.map_toArray, List.map_cons, List.map_nil]); first | done | rfl | (simp only [List.length_drop, List.length_take]; rfl)) ?_; (with_reducible refine (laws_toIntS.calls k _ _ l0 t156 _ ?side1 ?side2 A5.out).mono ?_); (case side1 => repeat (first | exact (Kd.C_below HR0.out HB.out) | (with_reducible refine Kd.C_alloc ?_ _) | (with_reducible refine Kd.C_drewN ?_ _) | (with_reducible refine Kd.C_drew ?_))); (case side2 => exact HC0.out); rintro e w11 ⟨v157, rfl, ho0, hb⟩; refine ⟨_, rfl, ?_⟩; have n0_ := Aside0.mk (Kd.R_elder' (by (with_reducible repeat (first | apply Kd.R_alloc | apply Kd.R_drewN | apply Kd.R_drew)); exact HO153.out) (Kd.R_base ho0) hb); have n1_ := Aside0.mk (Kd.R_lower (Kd.R_new' ho0 (Kd.R_lt (by (with_reducible repeat (first | apply Kd.R_alloc | apply Kd.R_drewN | apply Kd.R_drew)); exact HO153.out))) (below_size (by repeat (first | (with_reducible first | exact HB.out | apply below_alloc | apply pw_below_drewN | apply below_drew1) | exact HB.out)))); have n2_ := Aside0.mk (below_step (by repeat (first | (with_reducible first | exact HB.out | apply below_alloc | apply pw_below_drewN | apply below_drew1) | exact HB.out)) hb); clear HO153; clear HB; have HO153 := n0_; have HO158 := n1_; have HB := n2_; clear n0_ n1_ n2_; (try clear hb); (try clear hb2); (try clear hk); (try clear hi); (try clear ho0); obtain ⟨Ao12, co12, eo12⟩ := Kd.R_slice HO158.out; subst eo12) | ((with_reducible refine gate_callee (f := 6) rfl ?_); refine goesL_ (some 21) rfl rfl Try.func6 (by kernel_rfl) rfl #[.slice Ao12 t156.length co12] rfl (by (try simp only [List.map_toArray, List.map_cons, List.map_nil]); first | done | rfl | (simp only [List.length_drop, List.length_take]; rfl)) ?_; (with_reducible refine (impl_PartWays.calls k _ _ t156 t159 t160 _ ?side1 ?side2 A6.out).mono ?_); (case side1 => repeat (first | exact (Kd.R_reads' HO158.out).2.2 | (with_reducible refine Kd.C_alloc ?_ _) | (with_reducible refine Kd.C_drewN ?_ _) | (with_reducible refine Kd.C_drew ?_))); (case side2 => exact (Kd.R_reads' HO158.out).2.1); rintro e w13 ⟨rfl, hb⟩; refine ⟨_, rfl, ?_⟩; have n0_ := Aside0.mk (Kd.R_below (by (with_reducible repeat (first | apply Kd.R_alloc | apply Kd.R_drewN | apply Kd.R_drew)); exact HO153.out) hb); have n1_ := Aside0.mk (Kd.R_below (by (with_reducible repeat (first | apply Kd.R_alloc | apply Kd.R_drewN | apply Kd.R_drew)); exact HO158.out) hb); have n2_ := Aside0.mk (below_step (by repeat (first | (with_reducible first | exact HB.out | apply below_alloc | apply pw_below_drewN | apply below_drew1) | exact HB.out)) hb); clear HO153; clear HO158; clear HB; have HO153 := n0_; have HO158 := n1_; have HB := n2_; clear n0_ n1_ n2_; (try clear hb); (try clear hb2); (try clear hk); (try clear hi)))
    (try simp only [Act.put, List.setIfInBounds_toArray, List.set_cons_zero, List.set_cons_succ])
    go_cut [31] (fun v31 wc => ∃ (kq : Nat) (x31_6 : Bool), v31 = .bool x31_6 ∧ Aside0 (laws_FnExactPartWays.j0 kq l0 t156 x31_6 = some r) ∧ Aside0 (kq ≤ k) ∧ Aside0 (Kd.R (Kd.int .i64) 3 wc w.heap.size (fun _ => True) (.slice Ao12 t156.length co12) t156) ∧ Aside0 (Below w.heap.size w wc))
    case first =>
      have H := HC7.out
      clear HC7
      by_cases c14 : t159 = t154
      · rw [if_pos c14] at H
        have c14b0 : (t159 == t154) = true := beq_iff_eq.mpr c14
        have c14b1 : (t159 != t154) = false := bne_eq_false_iff_eq.mpr c14
        clear c14
        (first | rw [c14b0] | (simp only [i64_w, i32_w]; rw [c14b0]) | skip)
        have H' := Aside0.mk H
        clear H
        go_wp2
        go_meet
        case rel => exact ⟨_, ((t160 != t155)), (by first | rfl | (simp; done) | (simp [*]; done)), H', ⟨by first | omega | exact Nat.le_refl _⟩, ⟨by (with_reducible repeat (first | apply Kd.R_alloc | apply Kd.R_drewN | apply Kd.R_drew)); exact Kd.R_mono HO158.out (fun _ hk => trivial)⟩, ⟨by repeat (first | (with_reducible first | exact HB.out | apply below_alloc | apply pw_below_drewN | apply below_drew1) | exact HB.out)⟩⟩
      · rw [if_neg c14] at H
        have c14b0 : (t159 == t154) = false := beq_eq_false_iff_ne.mpr c14
        have c14b1 : (t159 != t154) = true := bne_iff_ne.mpr c14
        (first | rw [c14b0] | (simp only [i64_w, i32_w]; rw [c14b0]) | skip)
        have H' := Aside0.mk H
        clear H
        go_wp2
        go_meet
        case rel => exact ⟨_, (true), (by first | rfl | (simp; done) | (simp [*]; done)), H', ⟨by first | omega | exact Nat.le_refl _⟩, ⟨by (with_reducible repeat (first | apply Kd.R_alloc | apply Kd.R_drewN | apply Kd.R_drew)); exact Kd.R_mono HO158.out (fun _ hk => trivial)⟩, ⟨by repeat (first | (with_reducible first | exact HB.out | apply below_alloc | apply pw_below_drewN | apply below_drew1) | exact HB.out)⟩⟩
    case rest =>
      clear HC7
      try clear c1
      try clear c2
      try clear c2b0
      try clear c2b1
      try clear p2
      try clear c3
      try clear c4
      try clear c5
      try clear c6
      try clear c14
      try clear c14b0
      try clear c14b1
      obtain ⟨kq, x31_6, rfl, HA, HJ6, HO_5, HB⟩ := hcut
      cases kq with
      | zero => exact absurd HA.out (by simp [laws_FnExactPartWays.j0])
      | succ kj6 =>
        have H := HA.out
        clear HA
        simp only [laws_FnExactPartWays.j0] at H
        by_cases c15 : x31_6 = true
        · subst c15
          have H1 : (some false) = some r := by rw [if_pos rfl] at H; exact H
          clear H
          have H := H1
          clear H1
          obtain rfl := Option.some.inj H
          go_wp2
          go_ret
          exact ⟨by first | rfl | (simp [errW_none, errW_some] <;> rfl) | (simp [*, errW_none, errW_some] <;> rfl), by repeat (first | (with_reducible first | exact HB.out | apply below_alloc | apply pw_below_drewN | apply below_drew1) | exact HB.out)⟩
        · replace c15 := Bool.eq_false_iff.mpr c15
          subst c15
          have H1 : ((laws_toIntS.f kj6 l0).bind fun t161 => ((laws_eqIntS.f kj6 t156 t161).bind fun t164 => (if t164 = true then (some true) else (some false)))) = some r := by rw [if_neg (show ¬ (false = true) by decide)] at H; exact H
          clear H
          have H := H1
          clear H1
          replace H := Option.bind_eq_some_iff.mp H
          obtain ⟨t161, A160, H⟩ := H
          replace H : ((laws_eqIntS.f kj6 t156 t161).bind fun t164 => (if t164 = true then (some true) else (some false))) = some r := H
          have A16 := Aside0.mk A160
          clear A160
          replace H := Option.bind_eq_some_iff.mp H
          obtain ⟨t164, A170, H⟩ := H
          replace H : (if t164 = true then (some true) else (some false)) = some r := H
          have A17 := Aside0.mk A170
          clear A170
          by_cases c18 : t164 = true
          · subst c18
            have H1 : (some true) = some r := by rw [if_pos rfl] at H; exact H
            clear H
            have H := H1
            clear H1
            obtain rfl := Option.some.inj H
            go_wp2_with (first | ((with_reducible refine gate_callee (f := 5) rfl ?_); refine goesL_ (some 34) rfl rfl Try.func5 (by kernel_rfl) rfl #[.slice A0 l0.length c0] rfl (by (try simp only [List.map_toArray, List.map_cons, List.map_nil]); first | done | rfl | (simp only [List.length_drop, List.length_take]; rfl)) ?_; (with_reducible refine (laws_toIntS.calls kj6 _ _ l0 t161 _ ?side1 ?side2 A16.out).mono ?_); (case side1 => repeat (first | exact (Kd.C_below HR0.out HB.out) | (with_reducible refine Kd.C_alloc ?_ _) | (with_reducible refine Kd.C_drewN ?_ _) | (with_reducible refine Kd.C_drew ?_))); (case side2 => exact HC0.out); rintro e w19 ⟨v162, rfl, ho0, hb⟩; refine ⟨_, rfl, ?_⟩; have n0_ := Aside0.mk (Kd.R_elder' (by (with_reducible repeat (first | apply Kd.R_alloc | apply Kd.R_drewN | apply Kd.R_drew)); exact HO_5.out) (Kd.R_base ho0) hb); have n1_ := Aside0.mk (Kd.R_lower (Kd.R_new' ho0 (Kd.R_lt (by (with_reducible repeat (first | apply Kd.R_alloc | apply Kd.R_drewN | apply Kd.R_drew)); exact HO_5.out))) (below_size (by repeat (first | (with_reducible first | exact HB.out | apply below_alloc | apply pw_below_drewN | apply below_drew1) | exact HB.out)))); have n2_ := Aside0.mk (below_step (by repeat (first | (with_reducible first | exact HB.out | apply below_alloc | apply pw_below_drewN | apply below_drew1) | exact HB.out)) hb); clear HO_5; clear HB; have HO_5 := n0_; have HO163 := n1_; have HB := n2_; clear n0_ n1_ n2_; (try clear hb); (try clear hb2); (try clear hk); (try clear hi); (try clear ho0); obtain ⟨Ao20, co20, eo20⟩ := Kd.R_slice HO163.out; subst eo20) | ((with_reducible refine gate_callee (f := 7) rfl ?_); refine goesL_ (some 35) rfl rfl Try.func7 (by kernel_rfl) rfl #[.slice Ao12 t156.length co12, .slice Ao20 t161.length co20] rfl (by (try simp only [List.map_toArray, List.map_cons, List.map_nil]); first | done | rfl | (simp only [List.length_drop, List.length_take]; rfl)) ?_; (with_reducible refine (laws_eqIntS.calls kj6 _ _ t156 _ _ t161 true _ ?side1 ?side2 ?side3 ?side4 A17.out).mono ?_); (case side1 => repeat (first | exact (Kd.R_reads' HO_5.out).2.2 | (with_reducible refine Kd.C_alloc ?_ _) | (with_reducible refine Kd.C_drewN ?_ _) | (with_reducible refine Kd.C_drew ?_))); (case side2 => exact (Kd.R_reads' HO_5.out).2.1); (case side3 => repeat (first | exact (Kd.R_reads' HO163.out).2.2 | (with_reducible refine Kd.C_alloc ?_ _) | (with_reducible refine Kd.C_drewN ?_ _) | (with_reducible refine Kd.C_drew ?_))); (case side4 => exact (Kd.R_reads' HO163.out).2.1); rintro e w' ⟨rfl, ⟨nd, rfl⟩⟩; refine ⟨_, rfl, ?_⟩))
            go_ret
            exact ⟨by first | rfl | (simp [errW_none, errW_some] <;> rfl) | (simp [*, errW_none, errW_some] <;> rfl), by repeat (first | (with_reducible first | exact HB.out | apply below_alloc | apply pw_below_drewN | apply below_drew1) | exact HB.out)⟩
          · replace c18 := Bool.eq_false_iff.mpr c18
            subst c18
            have H1 : (some false) = some r := by rw [if_neg (show ¬ (false = true) by decide)] at H; exact H
            clear H
            have H := H1
            clear H1
            obtain rfl := Option.some.inj H
            go_wp2_with (first | ((with_reducible refine gate_callee (f := 5) rfl ?_); refine goesL_ (some 34) rfl rfl Try.func5 (by kernel_rfl) rfl #[.slice A0 l0.length c0] rfl (by (try simp only [List.map_toArray, List.map_cons, List.map_nil]); first | done | rfl | (simp only [List.length_drop, List.length_take]; rfl)) ?_; (with_reducible refine (laws_toIntS.calls kj6 _ _ l0 t161 _ ?side1 ?side2 A16.out).mono ?_); (case side1 => repeat (first | exact (Kd.C_below HR0.out HB.out) | (with_reducible refine Kd.C_alloc ?_ _) | (with_reducible refine Kd.C_drewN ?_ _) | (with_reducible refine Kd.C_drew ?_))); (case side2 => exact HC0.out); rintro e w21 ⟨v162, rfl, ho0, hb⟩; refine ⟨_, rfl, ?_⟩; have n0_ := Aside0.mk (Kd.R_elder' (by (with_reducible repeat (first | apply Kd.R_alloc | apply Kd.R_drewN | apply Kd.R_drew)); exact HO_5.out) (Kd.R_base ho0) hb); have n1_ := Aside0.mk (Kd.R_lower (Kd.R_new' ho0 (Kd.R_lt (by (with_reducible repeat (first | apply Kd.R_alloc | apply Kd.R_drewN | apply Kd.R_drew)); exact HO_5.out))) (below_size (by repeat (first | (with_reducible first | exact HB.out | apply below_alloc | apply pw_below_drewN | apply below_drew1) | exact HB.out)))); have n2_ := Aside0.mk (below_step (by repeat (first | (with_reducible first | exact HB.out | apply below_alloc | apply pw_below_drewN | apply below_drew1) | exact HB.out)) hb); clear HO_5; clear HB; have HO_5 := n0_; have HO163 := n1_; have HB := n2_; clear n0_ n1_ n2_; (try clear hb); (try clear hb2); (try clear hk); (try clear hi); (try clear ho0); obtain ⟨Ao22, co22, eo22⟩ := Kd.R_slice HO163.out; subst eo22) | ((with_reducible refine gate_callee (f := 7) rfl ?_); refine goesL_ (some 35) rfl rfl Try.func7 (by kernel_rfl) rfl #[.slice Ao12 t156.length co12, .slice Ao22 t161.length co22] rfl (by (try simp only [List.map_toArray, List.map_cons, List.map_nil]); first | done | rfl | (simp only [List.length_drop, List.length_take]; rfl)) ?_; (with_reducible refine (laws_eqIntS.calls kj6 _ _ t156 _ _ t161 false _ ?side1 ?side2 ?side3 ?side4 A17.out).mono ?_); (case side1 => repeat (first | exact (Kd.R_reads' HO_5.out).2.2 | (with_reducible refine Kd.C_alloc ?_ _) | (with_reducible refine Kd.C_drewN ?_ _) | (with_reducible refine Kd.C_drew ?_))); (case side2 => exact (Kd.R_reads' HO_5.out).2.1); (case side3 => repeat (first | exact (Kd.R_reads' HO163.out).2.2 | (with_reducible refine Kd.C_alloc ?_ _) | (with_reducible refine Kd.C_drewN ?_ _) | (with_reducible refine Kd.C_drew ?_))); (case side4 => exact (Kd.R_reads' HO163.out).2.1); rintro e w' ⟨rfl, ⟨nd, rfl⟩⟩; refine ⟨_, rfl, ?_⟩))
            go_ret
            exact ⟨by first | rfl | (simp [errW_none, errW_some] <;> rfl) | (simp [*, errW_none, errW_some] <;> rfl), by repeat (first | (with_reducible first | exact HB.out | apply below_alloc | apply pw_below_drewN | apply below_drew1) | exact HB.out)⟩

/-- THE ONE PURE STATEMENT of laws_FnExactPartWays: yours. -/
def laws_FnExactPartWays.Pure : Prop := ∀ (l0 : List Int), l0.length ≤ maxLen → l0.length * 8 ≤ 140737488351232 → (∀ x ∈ l0, (Lit.int .i64 x).wf = true) → ∃ k, laws_FnExactPartWays.f k l0 = some true
theorem laws_FnExactPartWays.walk (P : laws_FnExactPartWays.Pure) (a0 : Option Addr) (len0 cap0 : Nat) (z0 : List Int) (w : World) (w0 : (a0 = none ∧ len0 = 0 ∧ cap0 = 0 ∧ z0 = []) ∨ ∃ x, a0 = some x ∧ len0 ≤ cap0 ∧ cap0 ≤ maxLen ∧ z0.length = cap0 ∧ (∀ i, i < z0.length → w.cell? (x.add i) = some (.int .i64 (z0.getD i 0))) ∧ ∀ n ∈ z0, (Lit.int .i64 n).wf = true) (y0 : len0 * 8 ≤ 140737488351232) :
    Calls Try.prog 3 #[.slice a0 len0 cap0] w fun e w' => e = .returned (.bool true) ∧ Below w.heap.size w w' := by
  obtain ⟨l0, rfl, hr0, hm0, hw0, hc0⟩ := ReadsInt.ofRowC w0
  obtain ⟨k, h⟩ := P l0 hm0 y0 hw0
  refine (laws_FnExactPartWays.calls k _ _ l0 true w (Kd.C_of_reads (d := (0 : Int)) (h1 := fun _ => rfl) hr0) hc0 h).mono ?_
  rintro e w' ⟨rfl, hd⟩
  exact ⟨rfl, hd⟩

end Go.Proofs.Ytnpaaaponjcmkaa.PFnExactPartWays
