import Derived.Test.YtohfaffgabfakaaFirst
/- Names that are called back; the same first name for each name. No program in sight. -/
set_option linter.unusedVariables false
set_option linter.unusedSimpArgs false
namespace Go.Proofs.Ytohfaffgabfakaa.Orb
open Go.Proofs.Ytohfaffgabfakaa.Sol Go.Proofs.Ytohfaffgabfakaa.First
/-- Where each corner has gone. -/
def backOf (c : List Int) : List Int := ((([0, 0, 0, 0] : List Int).set (c.getD 0 0).toNat 0).set (c.getD 1 0).toNat 1 |>.set (c.getD 2 0).toNat 2).set (c.getD 3 0).toNat 3
theorem back_perm : ∀ c ∈ perms, backOf c ∈ perms := by decide +kernel
theorem comp_back : ∀ c ∈ perms, comp c (backOf c) = [0, 1, 2, 3] := by decide +kernel
theorem comp_back2 : ∀ c ∈ perms, ∀ y ∈ perms, comp c (comp (backOf c) y) = y := by decide +kernel
theorem perm_range : ∀ c ∈ perms, ∀ i ∈ List.range 4, 0 ≤ c.getD i 0 ∧ c.getD i 0 < 4 := by decide +kernel
theorem perm_len : ∀ c ∈ perms, c.length = 4 := by decide
theorem named_back {l : List Int} (h : l.length = 6) {c : List Int} (hc : c ∈ perms) : named (named l c) (backOf c) = l := by
  rw [named_named l hc (back_perm c hc), comp_back c hc, named_id h]
theorem first_same {l : List Int} (h : l.length = 6) {c : List Int} (hc : c ∈ perms) : firstOf (named l c) = firstOf l := by
  obtain ⟨x, hx, e⟩ := first_named h
  obtain ⟨y, hy, e2⟩ := first_named (named_length l c)
  refine lx_total _ _ (by rw [first_length h, first_length (named_length l c)]) ?_ ?_
  · rw [e2, named_named l hc hy]
    exact first_least l (comp_perm c hc y hy)
  · have : named l x = named (named l c) (comp (backOf c) x) := by
      rw [named_named l hc (comp_perm _ (back_perm c hc) x hx), comp_back2 c hc x hx]
    rw [e, this]
    exact first_least (named l c) (comp_perm _ (back_perm c hc) x hx)
end Go.Proofs.Ytohfaffgabfakaa.Orb
