import Derived.Test.YtbcfgglcabeckaaPerm
import Derived.Test.YtbcfgglcabeckaaPth
import Derived.Maps.Views
/- Steps as keys: the orders of a path, told by their keys, are as many as there are different orders. No program in sight. -/
set_option linter.unusedVariables false
set_option linter.unusedSimpArgs false
namespace Go.Proofs.Ytbcfgglcabeckaa.Latt
open Go.Proofs.Ytbcfgglcabeckaa.HOrd Go.Proofs.Ytbcfgglcabeckaa.Perm Go.Proofs.Ytbcfgglcabeckaa.Pth
theorem visits_map {α β : Type} (f : α → β) : ∀ (d : Nat) (q : List α), visits d (q.map f) = (visits d q).map (List.map f)
  | 0, q => rfl
  | d + 1, q => by
    unfold visits
    rw [List.map_flatMap, List.length_map]
    refine congrArg (fun F => List.flatMap F _) ?_
    funext j
    rw [← swap_map, visits_map f d]
theorem visits_len {α : Type} : ∀ (d : Nat) (q : List α), (visits d q).length = fact d
  | 0, _ => rfl
  | d + 1, q => by
    unfold visits
    have key : ∀ (F : Nat → List (List α)) (l : List Nat), (∀ j, (F j).length = fact d) → (l.flatMap F).length = l.length * fact d := by
      intro F l hF
      induction l with
      | nil => simp
      | cons a t ih => rw [List.flatMap_cons, List.length_append, hF, ih, List.length_cons, Nat.succ_mul, Nat.add_comm]
    rw [key _ _ (fun j => visits_len d _), List.length_range]
    rfl
/-- A step's two bytes. -/
def kb (v : V) : List UInt8 := [UInt8.ofNat (v.1 + 10).toNat, UInt8.ofNat (v.2 + 10).toNat]
def keyL (q : List V) : List UInt8 := q.flatMap kb
theorem ofNat_inj {x y : Int} (hx : 0 ≤ x ∧ x < 256) (hy : 0 ≤ y ∧ y < 256) (h : UInt8.ofNat x.toNat = UInt8.ofNat y.toNat) : x = y := by
  have := congrArg UInt8.toNat h
  simp only [UInt8.toNat_ofNat'] at this
  omega
theorem keyL_inj : ∀ (p q : List V), (∀ v ∈ p, stepV v) → (∀ v ∈ q, stepV v) → keyL p = keyL q → p = q
  | [], [], _, _, _ => rfl
  | [], v :: q, _, _, h => by simp [keyL, kb] at h
  | v :: p, [], _, _, h => by simp [keyL, kb] at h
  | v :: p, u :: q, hp, hq, h => by
    have h1 := hp v List.mem_cons_self
    have h2 := hq u List.mem_cons_self
    unfold stepV at h1 h2
    have e : UInt8.ofNat (v.1 + 10).toNat :: UInt8.ofNat (v.2 + 10).toNat :: keyL p = UInt8.ofNat (u.1 + 10).toNat :: UInt8.ofNat (u.2 + 10).toNat :: keyL q := h
    injection e with e1 e
    injection e with e2 e
    have a1 := ofNat_inj (by omega) (by omega) e1
    have a2 := ofNat_inj (by omega) (by omega) e2
    rw [keyL_inj p q (fun x hx => hp x (List.mem_cons_of_mem _ hx)) (fun x hx => hq x (List.mem_cons_of_mem _ hx)) e]
    congr 1
    exact Prod.ext (by omega) (by omega)
def kl (q : List V) : Lit := .string (keyL q)
theorem kl_key (q : List V) : WideAt.IsKeyLit (kl q) := trivial
theorem addKeys : ∀ (xs L : List Lit), L.Nodup → (∀ x ∈ xs, WideAt.IsKeyLit x) → (xs.foldl Maps.addKey L).Nodup ∧ ∀ y, y ∈ xs.foldl Maps.addKey L ↔ y ∈ L ∨ y ∈ xs
  | [], L, hn, _ => ⟨hn, fun y => by simp⟩
  | x :: xs, L, hn, hk => by
    have hx := hk x List.mem_cons_self
    have hany : L.any (fun y => y.sameKey x) = true ↔ x ∈ L := by
      rw [List.any_eq_true]
      constructor
      · rintro ⟨y, hy, e⟩
        rw [← WideAt.sameKey_eq e]; exact hy
      · exact fun h => ⟨x, h, WideAt.sameKey_self hx⟩
    have h1 : (Maps.addKey L x).Nodup ∧ ∀ y, y ∈ Maps.addKey L x ↔ y ∈ L ∨ y = x := by
      unfold Maps.addKey
      by_cases c : x ∈ L
      · rw [if_pos (hany.2 c)]
        exact ⟨hn, fun y => ⟨.inl, fun h => h.elim id (fun e => by rw [e]; exact c)⟩⟩
      · rw [if_neg (fun e => c (hany.1 e))]
        refine ⟨?_, fun y => by rw [List.mem_append, List.mem_singleton]⟩
        rw [List.nodup_append]
        exact ⟨hn, by simp, fun a ha b hb e => c (by rw [List.mem_singleton] at hb; rw [← hb, ← e]; exact ha)⟩
    obtain ⟨h2, h3⟩ := addKeys xs (Maps.addKey L x) h1.1 (fun y hy => hk y (List.mem_cons_of_mem _ hy))
    refine ⟨h2, fun y => ?_⟩
    rw [List.foldl_cons, h3 y, h1.2 y, List.mem_cons, or_assoc]
/-- How many different orders. -/
def latN (q : List V) : Nat := (dp q.length q).length
theorem keys_count {q : List V} (hq : ∀ v ∈ q, stepV v) : (((visits q.length q).map kl).foldl Maps.addKey []).length = latN q := by
  obtain ⟨h1, h2⟩ := addKeys ((visits q.length q).map kl) [] List.nodup_nil (fun x hx => by obtain ⟨p, _, rfl⟩ := List.mem_map.1 hx; exact kl_key p)
  have hst : ∀ p : List V, p.Perm q → ∀ v ∈ p, stepV v := fun p hp v hv => hq v (hp.mem_iff.1 hv)
  have hnd : ((dp q.length q).map kl).Nodup := by
    have hd := nodup_dp q.length q
    refine List.Pairwise.map (R := fun a b => a ≠ b ∧ a.Perm q ∧ b.Perm q) kl (fun a b hab e => ?_) ?_
    · obtain ⟨h, ha, hb⟩ := hab
      injection e with e
      exact h (keyL_inj a b (hst a ha) (hst b hb) e)
    · refine List.Pairwise.imp_of_mem (fun ha hb h => ⟨h, (mem_dp _ _ _ rfl).1 ha, (mem_dp _ _ _ rfl).1 hb⟩) hd
  letI : DecidableEq Lit := fun a b => Classical.propDecidable (a = b)
  have := nodup_same h1 hnd (fun y => by
    rw [h2 y, List.mem_map, List.mem_map]
    constructor
    · rintro (h | ⟨p, hp, rfl⟩)
      · cases h
      · exact ⟨p, (mem_dp _ _ _ rfl).2 ((mem_visits _ _ _ (Nat.le_refl _)).1 hp).2, rfl⟩
    · rintro ⟨p, hp, rfl⟩
      refine .inr ⟨p, (mem_visits _ _ _ (Nat.le_refl _)).2 ⟨by simp, (mem_dp _ _ _ rfl).1 hp⟩, rfl⟩)
  rw [this, List.length_map]
  rfl
theorem fact_le : ∀ n, n ≤ 6 → fact n ≤ 720 := by decide
theorem latN_le {q : List V} (h : q.length ≤ 6) : latN q ≤ 720 := by
  have h1 := dp_count q.length q rfl
  have h2 := fac_pos q
  have h3 := fact_le _ h
  have : (dp q.length q).length * 1 ≤ (dp q.length q).length * fac q := Nat.mul_le_mul_left _ h2
  unfold latN
  omega
theorem latN_le' {q : List V} (h : q.length ≤ 6) {i : Nat} (hi : i < q.length) : (dp i (q.take i)).length ≤ 720 := by
  have := latN_le (q := q.take i) (by rw [List.length_take]; omega)
  unfold latN at this
  rwa [show (q.take i).length = i by rw [List.length_take]; omega] at this
theorem latN_map {q : List V} {f : V → V} (hf : ∀ a b, f a = f b → a = b) : latN (q.map f) = latN q := by
  have h1 := dp_count q.length q rfl
  have h2 := dp_count (q.map f).length (q.map f) rfl
  rw [fac_map hf, List.length_map] at h2
  unfold latN
  rw [List.length_map]
  exact Nat.eq_of_mul_eq_mul_right (fac_pos q) (h2.trans h1.symm)
theorem latN_perm {p q : List V} (h : p.Perm q) : latN p = latN q := by
  have h1 := dp_count q.length q rfl
  have h2 := dp_count p.length p rfl
  rw [fac_perm h, h.length_eq] at h2
  unfold latN
  rw [h.length_eq]
  exact Nat.eq_of_mul_eq_mul_right (fac_pos q) (h2.trans h1.symm)
theorem latN_back (q : List V) : latN (back q) = latN q := by
  unfold back
  rw [latN_perm (List.reverse_perm _)]
  exact latN_map (fun a b h => by
    injection h with h1 h2
    exact Prod.ext (by omega) (by omega))
theorem latN_two {q : List V} {u v : V} (hu : u ∈ q) (hv : v ∈ q) (h : u ≠ v) : 2 ≤ latN q := by
  have mk : ∀ x ∈ q, ∃ t, x :: t ∈ dp q.length q := fun x hx => ⟨q.erase x, (mem_dp _ _ _ rfl).2 (List.perm_cons_erase hx).symm⟩
  obtain ⟨s, hs⟩ := mk u hu
  obtain ⟨t, ht⟩ := mk v hv
  have := nodup_le [u :: s, v :: t] (dp q.length q) (by simp [h]) (fun x hx => by
    rcases List.mem_cons.1 hx with rfl | hx
    · exact hs
    · rw [List.mem_singleton] at hx; rw [hx]; exact ht)
  exact this
end Go.Proofs.Ytbcfgglcabeckaa.Latt
