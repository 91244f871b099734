import Derived.Test.YtdjddfeokpmfaaaWMore
import Derived.Shelf.SlicesE.Reverse
import Derived.Shelf.SlSortCmp.Insertion
/- What lies behind a row of rows: the headers' cells and the inner rows, apart (no program's function in sight); a row's cells put in another order. -/
set_option linter.unusedVariables false
set_option linter.unusedSimpArgs false
namespace Go.Proofs.Ytdjddfeokpmfaaa.HRaw
open Go.RowKit Go.Shelf Go.Sort Go.Proofs.YtdjddfeokpmfaaaW.PrintWords Go.Proofs.YtdjddfeokpmfaaaW.PrintMore
variable {α : Type} [Inhabited α]

theorem putRow_ne (enc : α → Value) (w : World) (blk off : Nat) (d : Array α) (k : Nat) (h : k ≠ blk) : (putRow enc w blk off d).heap[k]? = w.heap[k]? := by
  unfold putRow mapBlock
  simp only [Array.getElem?_modify]
  rw [if_neg (fun e => h e.symm)]
theorem putRow_at (enc : α → Value) (w : World) (blk off : Nat) (d : Array α) {c : Array Value} {e : TypeId} {z : Nat × Nat} (h : w.heap[blk]? = some (.cells c e z)) :
    (putRow enc w blk off d).heap[blk]? = some (.cells (putCells enc off d c) e z) := by
  unfold putRow mapBlock
  simp only [Array.getElem?_modify, if_true, h]
  rfl
theorem below_putRow (enc : α → Value) {B : Nat} {a w : World} (h : Below B a w) (n : Nat) {blk : Nat} (hb : B ≤ blk) (off : Nat) (d : Array α) : Below B a (putRow enc (Sort.ahead w n) blk off d) := by
  refine h.trans ⟨rfl, rfl, rfl, ?_, fun k hk => ?_⟩
  · rw [Sort.size_putRow]; exact Nat.le_refl _
  · rw [putRow_ne _ _ _ _ _ _ (by omega)]; rfl

/-- A header: where an inner row lies, its length, its capacity. -/
abbrev Hd := Option Addr × Nat × Nat
def encH (h : Hd) : Value := .slice h.1 h.2.1 h.2.2
theorem oneH : OneCell encH := fun _ => rfl

/-- A row of rows laid open: its block g, the cells cur, the headers hs; each element read over whatever keeps the other blocks. -/
structure Open (d : Kd Int) (w : World) (e base : Nat) (ok : Nat → Prop) (v : Value) (xs : List (List Int)) (g cap : Nat) (cur : Array Value) (hs : List Hd) : Prop where
  val : v = .slice (some ⟨g, 0, none⟩) xs.length cap
  ge : base ≤ g
  len : xs.length ≤ cap
  cm : cap ≤ maxLen
  blk : w.heap[g]? = some (.cells cur e (0, 0))
  size : cur.size = cap
  hlen : hs.length = xs.length
  hd : ∀ j (hj : j < hs.length), cur[j]? = some (encH hs[j])
  okg : ok g
  el : ∀ (j : Nat) (x : List Int) (h : Hd), xs[j]? = some x → hs[j]? = some h → h.2.1 = x.length ∧ x.length ≤ h.2.2 ∧ Kd.F d w (fun k => ok k ∧ k ≠ g) h.1 x.length x

theorem open_N {d : Kd Int} {w : World} {e3 e base : Nat} {ok : Nat → Prop} {v : Value} {xs : List (List Int)} (h : Kd.N (Kd.slice e3 d) e w base ok v xs) (hn : 0 < xs.length) :
    ∃ g cap cur hs, Open d w e base ok v xs g cap cur hs := by
  obtain ⟨hok, rows, hl, ⟨_, inner, ho, hr⟩, hF⟩ := h
  obtain ⟨h1, h2⟩ := ho
  rcases h2 with ⟨_, h0⟩ | ⟨g, cap, cur, rfl, hg, hh, hc, hm, hs, ht⟩
  · omega
  · have hcur : ∀ (j : Nat) (p : List Value), rows[j]? = some p → ∃ u : Value, p = [u] ∧ (cur[j]? : Option Value) = some u := by
      intro j p hp
      obtain ⟨q1, q2, _⟩ := hr.2 j p hp
      have hj : j < rows.length := (List.getElem?_eq_some_iff.1 hp).1
      have q2' : ((inner.drop (j * 1)).take 1).length = 1 := q2
      have q1' : (inner.drop (j * 1)).take 1 = p := q1
      rw [Nat.mul_one] at q1' q2'
      have hsz : (Kd.raw (Kd.slice e3 d).sz).sz = 1 := rfl
      rw [hsz, Nat.mul_one] at h1 ht hs
      have hji : j < inner.length := by omega
      refine ⟨inner[j], ?_, ?_⟩
      · rw [← q1', List.drop_eq_getElem_cons hji]; rfl
      · have : cur.toList[j]? = some inner[j] := by
          have := List.getElem?_eq_getElem hji
          rw [← this, ← ht, List.getElem?_take, if_pos hj]
        simpa using this
    have hex : ∀ j (hj : j < xs.length), ∃ h : Hd, cur[j]? = some (encH h) ∧ h.2.1 = xs[j].length ∧ xs[j].length ≤ h.2.2 ∧ Kd.F d w (fun k => ok k ∧ k ≠ g) h.1 xs[j].length xs[j] := by
      intro j hj
      have hp : rows[j]? = some (rows[j]'(by omega)) := List.getElem?_eq_getElem (by omega)
      obtain ⟨u, hu, hcj⟩ := hcur j _ hp
      have hx : xs[j]? = some xs[j] := List.getElem?_eq_getElem hj
      have hFK := hF j _ _ hx hp
      have hnow : (Kd.slice e3 d).K w xs[j] (rows[j]'(by omega)) := Foot.now hFK
      obtain ⟨A, c, e1, hc1, _⟩ := hnow
      rw [hu] at e1
      injection e1 with e1 _
      refine ⟨(A, xs[j].length, c), ?_, rfl, hc1, ?_⟩
      · rw [hcj, e1]; rfl
      · intro W' hW
        have hK : (Kd.slice e3 d).K W' xs[j] (rows[j]'(by omega)) := hFK W' (fun k hk hlt => hW k ⟨hk.1, fun e => by
          have := hk.2
          subst e
          exact this rfl⟩ hlt)
        obtain ⟨A', c', e2, _, hC⟩ := hK
        rw [hu, e1] at e2
        injection e2 with e2 _
        injection e2 with e3 _ _
        rw [e3]; exact hC
    have hex' : ∀ j : Fin xs.length, ∃ h : Hd, cur[j.1]? = some (encH h) ∧ h.2.1 = xs[j.1].length ∧ xs[j.1].length ≤ h.2.2 ∧ Kd.F d w (fun k => ok k ∧ k ≠ g) h.1 xs[j.1].length xs[j.1] := fun j => hex j.1 j.2
    have hch := fun j => Classical.choose_spec (hex' j)
    refine ⟨g, cap, cur, List.ofFn (fun j => Classical.choose (hex' j)), ?_, hg, ?_, hm, hh, ?_, by simp, ?_, hok g rfl, ?_⟩
    · rw [hl]
    · omega
    · have hsz : (Kd.raw (Kd.slice e3 d).sz).sz = 1 := rfl
      rw [hsz, Nat.mul_one] at hs
      exact hs
    · intro j hj
      have hj' : j < xs.length := by simpa using hj
      rw [List.getElem_ofFn]
      exact (hch ⟨j, hj'⟩).1
    · intro j x h hx hh'
      have hj' : j < xs.length := (List.getElem?_eq_some_iff.1 hx).1
      rw [List.getElem?_eq_getElem hj'] at hx
      rw [List.getElem?_ofFn, dif_pos hj'] at hh'
      injection hx with hx
      injection hh' with hh'
      subst hx hh'
      exact (hch ⟨j, hj'⟩).2

/-- A row of rows read, out of the headers' cells and the elements. -/
theorem shut_C {d : Kd Int} {e3 : Nat} {W : World} {g : Nat} {cur : Array Value} {e : TypeId} {z : Nat × Nat} {xs : List (List Int)} {hs : List Hd} (hb : W.heap[g]? = some (.cells cur e z)) (hl : hs.length = xs.length)
    (hm : xs.length ≤ 9223372036854775807) (hd : ∀ j (hj : j < hs.length), cur[j]? = some (encH hs[j]))
    (el : ∀ (j : Nat) (x : List Int) (h : Hd), xs[j]? = some x → hs[j]? = some h → h.2.1 = x.length ∧ x.length ≤ h.2.2 ∧ d.C W h.1 x.length x) : Kd.C (Kd.slice e3 d) W (some ⟨g, 0, none⟩) xs.length xs := by
  refine ⟨rfl, hm, fun _ => ⟨_, rfl, fun j x hx => ?_⟩⟩
  have hj : j < xs.length := (List.getElem?_eq_some_iff.1 hx).1
  have hj' : j < hs.length := by omega
  obtain ⟨e1, e2, e3'⟩ := el j x _ hx (List.getElem?_eq_getElem hj')
  refine ⟨[encH hs[j]], rfl, ⟨hs[j].1, hs[j].2.2, ?_, e2, e3'⟩, ?_⟩
  · unfold encH; rw [e1]
  · intro i u hu
    have hsz : (Kd.slice e3 d).sz = 1 := rfl
    rw [hsz, Nat.mul_one]
    match i with
    | 0 =>
      injection hu with hu
      subst hu
      have ea : Addr.add ⟨g, 0, none⟩ (j + 0) = ⟨g, j, none⟩ := by
        unfold Addr.add
        by_cases h0 : j = 0
        · subst h0; rfl
        · rw [if_neg (by omega)]; simp
      rw [ea]
      unfold World.cell?
      simp only [hb]
      exact hd j hj'
    | i + 1 => simp at hu

/-- .. and made: the headers' cells in another order, or changed, all other blocks as they were. -/
theorem shut_N {d : Kd Int} {w W : World} {e3 e base : Nat} {ok : Nat → Prop} {v : Value} {xs ys : List (List Int)} {g cap : Nat} {cur cur' : Array Value} {hs hs' : List Hd} (O : Open d w e base ok v xs g cap cur hs)
    (hW : ∀ k, k ≠ g → W.heap[k]? = w.heap[k]?) (hb : W.heap[g]? = some (.cells cur' e (0, 0))) (hc : cur'.size = cap) (hl : ys.length = xs.length) (hl' : hs'.length = xs.length)
    (hd : ∀ j (hj : j < hs'.length), cur'[j]? = some (encH hs'[j])) (hp : ∀ (j : Nat) (y : List Int) (h : Hd), ys[j]? = some y → hs'[j]? = some h → ∃ i : Nat, xs[i]? = some y ∧ hs[i]? = some h) :
    Kd.N (Kd.slice e3 d) e W base ok v ys := by
  have hv := O.val
  have h1c := O.len
  refine ⟨fun k hk => ?_, hs'.map (fun h => [encH h]), by rw [List.length_map, hl', hl], ⟨fun k hk => hk.symm, hs'.map encH, ⟨?_, .inr ⟨g, cap, cur', ?_, O.ge, hb, ?_, O.cm, ?_, ?_⟩⟩, ?_, ?_⟩, ?_⟩
  · rw [hv] at hk; simp only [Value.ownBlock, Option.some.injEq] at hk; subst hk; exact O.okg
  · show _ = _ * 1
    simp
  · rw [hv, List.length_map, hl']
  · rw [List.length_map]; omega
  · show _ = cap * 1
    omega
  · show List.take (_ * 1) _ = _
    rw [List.length_map, Nat.mul_one]
    refine List.ext_getElem? fun j => ?_
    rw [List.getElem?_take]
    by_cases hj : j < hs'.length
    · rw [if_pos hj, List.getElem?_map, List.getElem?_eq_getElem hj]
      have := hd j hj
      simpa using this
    · rw [if_neg hj, List.getElem?_eq_none (by simp; omega)]
  · simp [Kd.raw, Kd.slice]
  · intro j p hp'
    rw [List.getElem?_map] at hp'
    have hj : j < hs'.length := by
      rcases Nat.lt_or_ge j hs'.length with c | c
      · exact c
      · rw [List.getElem?_eq_none c] at hp'; cases hp'
    rw [List.getElem?_eq_getElem hj] at hp'
    injection hp' with hp'
    subst hp'
    have e1 : ((hs'.map encH).drop (j * (Kd.raw (Kd.slice e3 d).sz).sz)).take (Kd.raw (Kd.slice e3 d).sz).sz = [encH hs'[j]] := by
      show ((hs'.map encH).drop (j * 1)).take 1 = _
      rw [Nat.mul_one, List.drop_eq_getElem_cons (by simpa using hj)]
      simp
    rw [e1]
    exact ⟨rfl, rfl, fun u hu => by rw [List.mem_singleton.1 hu]; rfl⟩
  · intro j x c hx hc'
    rw [List.getElem?_map] at hc'
    obtain ⟨h, hh, rfl⟩ : ∃ h, hs'[j]? = some h ∧ [encH h] = c := by
      cases hq : hs'[j]? with
      | none => rw [hq] at hc'; cases hc'
      | some h => rw [hq] at hc'; exact ⟨h, rfl, Option.some.inj hc'⟩
    obtain ⟨i, hx', hh'⟩ := hp j x h hx hh
    obtain ⟨e1, e2, hF⟩ := O.el i x h hx' hh'
    have hF' := Kd.F_step (W1 := W) hF (fun k hk _ => hW k hk.2)
    refine Foot.mono (Foot.imp hF' (fun W' hC => ⟨h.1, h.2.2, by unfold encH; rw [e1], e2, hC⟩)) (fun k hk => ⟨hk.1, fun e0 => ?_⟩)
    rw [hv] at e0
    simp only [Value.ownBlock, Option.some.injEq] at e0
    exact hk.2 e0

/-- The list with the elements from place i to place j, not less, turned round. -/
def turned {β : Type} (l : List β) (i j : Nat) : List β := l.take i ++ (((l.drop i).take (j + 1 - i)).reverse ++ l.drop (j + 1))
theorem turned_length {β : Type} {l : List β} {i j : Nat} (h1 : i ≤ j) (h2 : j < l.length) : (turned l i j).length = l.length := by
  simp [turned]; omega
theorem turned_get {β : Type} {l : List β} {i j : Nat} (h1 : i ≤ j) (h2 : j < l.length) (m : Nat) : (turned l i j)[m]? = if i ≤ m ∧ m ≤ j then l[i + j - m]? else l[m]? := by
  unfold turned
  rcases Nat.lt_or_ge m i with c | c
  · rw [List.getElem?_append_left (by simp; omega), List.getElem?_take, if_pos c, if_neg (by omega)]
  · rw [List.getElem?_append_right (by simp; omega)]
    have hi : (l.take i).length = i := by simp; omega
    rw [hi]
    rcases Nat.lt_or_ge j m with c2 | c2
    · rw [List.getElem?_append_right (by simp; omega), if_neg (by omega), List.getElem?_drop]
      congr 1
      simp; omega
    · rw [List.getElem?_append_left (by simp; omega), if_pos ⟨c, c2⟩, List.getElem?_reverse (by simp; omega), List.getElem?_take, if_pos (by simp; omega), List.getElem?_drop]
      congr 1
      simp; omega
theorem putCells_get (enc : α → Value) (off : Nat) (d : Array α) (c : Array Value) (k : Nat) : (putCells enc off d c)[k]? = (c[k]?).map (fun x => if off ≤ k ∧ k < off + d.size then enc d[k - off]! else x) := by
  unfold putCells
  rw [Array.getElem?_mapIdx]
theorem Open.holds {d : Kd Int} {w : World} {e base : Nat} {ok : Nat → Prop} {v : Value} {xs : List (List Int)} {g cap : Nat} {cur : Array Value} {hs : List Hd} (O : Open d w e base ok v xs g cap cur hs) (i m : Nat) (h : i + m ≤ xs.length) :
    Holds encH w g i ((hs.drop i).take m).toArray := by
  have hl := O.hlen
  intro t ht
  have ht' : t < m := by simp at ht; omega
  have hti : i + t < hs.length := by omega
  constructor
  · unfold World.cell?
    rw [O.blk]
    show cur[i + t]? = _
    rw [O.hd (i + t) hti, getElem!_pos _ t ht]
    simp
  · unfold World.frozen?
    rw [O.blk]
    simp
theorem turned_N {d : Kd Int} {w : World} {e3 e base : Nat} {ok : Nat → Prop} {v : Value} {xs : List (List Int)} {g cap : Nat} {cur : Array Value} {hs : List Hd} (O : Open d w e base ok v xs g cap cur hs) (n : Nat) {i j : Nat} (h1 : i ≤ j) (h2 : j < xs.length) :
    Kd.N (Kd.slice e3 d) e (putRow encH (Sort.ahead w n) g i ((hs.drop i).take (j + 1 - i)).reverse.toArray) base ok v (turned xs i j) := by
  have hl := O.hlen
  have hs2 : j < hs.length := by omega
  have h1c := O.len
  have hsz := O.size
  refine shut_N (hs' := turned hs i j) O (fun k hk => ?_) (putRow_at _ _ _ _ _ (show (Sort.ahead w n).heap[g]? = _ from O.blk)) ?_ (turned_length h1 h2) (by rw [turned_length h1 hs2, hl]) ?_ ?_
  · rw [putRow_ne _ _ _ _ _ _ hk]; rfl
  · simp [putCells, O.size]
  · intro m hm
    rw [turned_length h1 hs2] at hm
    rw [putCells_get]
    have hmc : cur[m]? = some (encH hs[m]) := O.hd m hm
    rw [hmc, Option.map_some]
    have key : (turned hs i j)[m]? = if i ≤ m ∧ m ≤ j then hs[i + j - m]? else hs[m]? := turned_get h1 hs2 m
    have hlt : m < (turned hs i j).length := by rw [turned_length h1 hs2]; exact hm
    rw [List.getElem?_eq_getElem hlt] at key
    congr 1
    by_cases c : i ≤ m ∧ m ≤ j
    · rw [if_pos c, List.getElem?_eq_getElem (show i + j - m < hs.length by omega)] at key
      injection key with key
      rw [key, if_pos ⟨c.1, by simp; omega⟩, getElem!_pos _ _ (by simp; omega)]
      congr 1
      simp only [List.getElem_toArray, List.getElem_reverse, List.getElem_take, List.getElem_drop]
      congr 1
      simp; omega
    · rw [if_neg c, List.getElem?_eq_getElem hm] at key
      injection key with key
      rw [key, if_neg]
      intro q
      have := q.2
      simp at this
      omega
  · intro m y h hy hh
    rw [turned_get h1 h2] at hy
    rw [turned_get h1 hs2] at hh
    by_cases c : i ≤ m ∧ m ≤ j
    · rw [if_pos c] at hy hh; exact ⟨_, hy, hh⟩
    · rw [if_neg c] at hy hh; exact ⟨_, hy, hh⟩
end Go.Proofs.Ytdjddfeokpmfaaa.HRaw
