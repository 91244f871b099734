import Derived.Test.YtbcfgglcabeckaaHRaw
import Derived.Test.YtbcfgglcabeckaaHClo
/- An empty row that was just made; a row of one header that was just made (no program's function in sight). -/
set_option linter.unusedVariables false
set_option linter.unusedSimpArgs false
namespace Go.Proofs.Ytbcfgglcabeckaa.HMst
open Go.RowKit Go.Proofs.YtbcfgglcabeckaaW.PrintWords Go.Proofs.YtbcfgglcabeckaaW.PrintMore Go.Proofs.Ytbcfgglcabeckaa.HRaw Go.Proofs.Ytbcfgglcabeckaa.HClo
theorem N_empty {d : Kd Int} {e3 base b : Nat} {ok : Nat → Prop} {W : World} (hb : W.heap[b]? = some (.cells #[] 35 (0, 0))) (hbase : base ≤ b) (hok : ok b) : Kd.N (Kd.slice e3 d) 35 W base ok (.slice (some ⟨b, 0, none⟩) 0 0) [] := by
  refine ⟨fun k hk => ?_, [], rfl, ⟨fun k hk => hk.symm, [], ⟨?_, .inr ⟨b, 0, #[], rfl, hbase, hb, Nat.le_refl _, Nat.zero_le _, ?_, ?_⟩⟩, ?_, ?_⟩, ?_⟩
  · simp only [Value.ownBlock, Option.some.injEq] at hk
    subst hk; exact hok
  · show _ = 0 * 1
    rfl
  · show _ = 0 * 1
    rfl
  · simp
  · simp [Kd.raw, Kd.slice]
  · intro j p hp; simp at hp
  · intro j x c hx; simp at hx
theorem F_one {d : Kd (List Int)} {okp : Nat → Prop} {W : World} {b : Nat} {x : List Int} {v : Value} {e : TypeId} (hsz : d.sz = 1) (hb : W.heap[b]? = some (.cells #[v] e (0, 0))) (hx : Kd.FK d W okp x [v]) : Kd.F d W (fun k => k = b ∨ okp k) (some ⟨b, 0, none⟩) 1 [x] := by
  intro W' hW
  have hlt : b < W.heap.size := lt_of_block hb
  have hb' := (hW b (.inl rfl) hlt).trans hb
  have hK := hx W' (fun k hk hl => hW k (.inr hk) hl)
  refine ⟨rfl, by decide, fun _ => ⟨_, rfl, fun j p hj => ?_⟩⟩
  match j with
  | 0 =>
    injection hj with hj
    subst hj
    refine ⟨[v], by rw [hsz]; rfl, hK, fun i u hu => ?_⟩
    match i with
    | 0 =>
      injection hu with hu
      subst hu
      rw [hsz]
      exact cell_of_one hb'
    | i + 1 => simp at hu
  | j + 1 => simp at hj
theorem ne_of_hat {v1 : Value} {b n c S b37 : Nat} (hat : v1.ownBlock = (Value.slice (some ⟨b, 0, none⟩) n c).ownBlock ∨ ∃ b', v1.ownBlock = some b' ∧ S ≤ b') (hne : b ≠ b37) (hlt : b37 < S) : ∀ k, v1.ownBlock = some k → k ≠ b37 := by
  intro k hk
  rcases hat with h | ⟨b', h, h'⟩
  · rw [h] at hk
    simp only [Value.ownBlock, Option.some.injEq] at hk
    omega
  · rw [h] at hk
    have := Option.some.inj hk
    omega
end Go.Proofs.Ytbcfgglcabeckaa.HMst
