import Derived.Test.YtdjddfeokpmfaaaHRaw
/- slices.insertionSortCmpFunc's exchange of neighbours is an insertion from the right: one list law; and a row of rows of the call's own, laid open and put in another order. -/
set_option linter.unusedVariables false
set_option linter.unusedSimpArgs false
namespace Go.Proofs.Ytdjddfeokpmfaaa.HSrt
open Go.RowKit Go.Shelf Go.Sort Go.Proofs.YtdjddfeokpmfaaaW.PrintWords Go.Proofs.YtdjddfeokpmfaaaW.PrintMore Go.Proofs.Ytdjddfeokpmfaaa.HRaw
section
variable {α β : Type} [Inhabited α] [Inhabited β]
/-- Where x is put among the first k of out: behind the last one that it isn't before. -/
def posR (lt : α → α → Bool) (x : α) (out : List α) : Nat → Nat
  | 0 => 0
  | k + 1 => if lt x (out.getD k default) = true then posR lt x out k else k + 1
def insR (lt : α → α → Bool) (x : α) (out : List α) : List α := out.take (posR lt x out out.length) ++ x :: out.drop (posR lt x out out.length)
def isort (lt : α → α → Bool) (l : List α) : List α := l.foldl (fun out x => insR lt x out) []
theorem insR_perm (lt : α → α → Bool) (x : α) (out : List α) : (insR lt x out).Perm (x :: out) := by
  unfold insR
  refine List.perm_middle.trans ?_
  rw [List.take_append_drop]
theorem isort_perm (lt : α → α → Bool) (l : List α) : (isort lt l).Perm l := by
  have key : ∀ (l out : List α), (l.foldl (fun out x => insR lt x out) out).Perm (out ++ l) := by
    intro l
    induction l with
    | nil => intro out; simp
    | cons x t ih =>
      intro out
      rw [List.foldl_cons]
      refine (ih (insR lt x out)).trans (((insR_perm lt x out).append_right t).trans ?_)
      rw [List.cons_append]
      exact List.perm_middle.symm
  exact key l []
theorem swp_toList (d : Array α) (A B : List α) (x y : α) (k : Nat) (h : d.toList = A ++ y :: x :: B) (hk : A.length = k) : (swp d (k + 1) k).toList = A ++ x :: y :: B := by
  have hg : ∀ i, d[i]! = d.toList.getD i default := by
    intro i
    by_cases hi : i < d.size
    · rw [getElem!_pos d i hi]; simp [hi]
    · rw [getElem!_neg d i hi]; simp [hi]
  unfold swp
  rw [Array.toList_setIfInBounds, Array.toList_setIfInBounds, hg, hg, h]
  subst hk
  simp [List.set_append]
theorem insInner_toList (lt : α → α → Bool) (x : α) (out rest : List α) : ∀ (k : Nat) (d : Array α), k ≤ out.length → d.toList = out.take k ++ x :: (out.drop k ++ rest) →
    (insInner lt 0 k d).toList = out.take (posR lt x out k) ++ x :: (out.drop (posR lt x out k) ++ rest) := by
  intro k
  induction k with
  | zero => intro d _ h; simpa [insInner, posR] using h
  | succ k ih =>
    intro d hk h
    have hg : ∀ i, d[i]! = d.toList.getD i default := by
      intro i
      by_cases hi : i < d.size
      · rw [getElem!_pos d i hi]; simp [hi]
      · rw [getElem!_neg d i hi]; simp [hi]
    have hkl : k < out.length := by omega
    have e1 : out.take (k + 1) = out.take k ++ [out[k]] := List.take_succ_eq_append_getElem hkl
    have h' : d.toList = out.take k ++ out[k] :: x :: (out.drop (k + 1) ++ rest) := by rw [h, e1, List.append_assoc]; rfl
    have hA : (out.take k).length = k := by simp; omega
    have g1 : d[k + 1]! = x := by
      rw [hg, h', List.getD_eq_getElem?_getD, List.getElem?_append_right (by omega), hA, show k + 1 - k = 1 from by omega]; rfl
    have g0 : d[k]! = out[k] := by
      rw [hg, h', List.getD_eq_getElem?_getD, List.getElem?_append_right (by omega), hA, Nat.sub_self]; rfl
    have eg : out.getD k default = out[k] := by simp [hkl]
    unfold insInner posR
    rw [g1, g0, eg]
    by_cases c : lt x out[k] = true
    · rw [if_pos (by simp [c]), if_pos c]
      refine ih _ (by omega) ?_
      rw [swp_toList d _ _ x out[k] k h' hA, List.drop_eq_getElem_cons hkl]
      rfl
    · rw [if_neg (by simp [c]), if_neg c]
      exact h
theorem insOuter_toList (lt : α → α → Bool) (l : List α) : ∀ (m i : Nat) (d : Array α), i + m = l.length → d.toList = isort lt (l.take i) ++ l.drop i → (insOuter lt 0 l.length i d).toList = isort lt l := by
  intro m
  induction m with
  | zero =>
    intro i d hi h
    rw [insOuter_stop _ _ _ _ _ (by omega), h, show i = l.length from by omega]
    simp
  | succ m ih =>
    intro i d hi h
    rw [insOuter_go _ _ _ _ _ (by omega)]
    refine ih (i + 1) _ (by omega) ?_
    have hil : i < l.length := by omega
    have hlen : (isort lt (l.take i)).length = i := by rw [(isort_perm lt _).length_eq]; simp; omega
    have e1 : isort lt (l.take (i + 1)) = insR lt l[i] (isort lt (l.take i)) := by
      rw [List.take_succ_eq_append_getElem hil]; unfold isort; rw [List.foldl_append]; rfl
    have hS1 : (isort lt (l.take i)).take i = isort lt (l.take i) := List.take_of_length_le (by omega)
    have hS2 : (isort lt (l.take i)).drop i = [] := List.drop_eq_nil_of_le (by omega)
    have := insInner_toList lt l[i] (isort lt (l.take i)) (l.drop (i + 1)) i d (by omega) (by
      rw [h, hS1, hS2, List.drop_eq_getElem_cons hil]; rfl)
    rw [this, e1]
    unfold insR
    rw [hlen, List.append_assoc]
    rfl
theorem insertionSort_toList (lt : α → α → Bool) (d : Array α) : (insertionSort lt d 0 d.size).toList = isort lt d.toList := by
  unfold insertionSort
  by_cases h0 : d.toList.length = 0
  · have : d.toList = [] := List.eq_nil_of_length_eq_zero h0
    have hs : d.size = 0 := by simpa using h0
    rw [insOuter_stop _ _ _ _ _ (by omega), this]; rfl
  · have hs : d.toList.length = d.size := by simp
    have := insOuter_toList lt d.toList (d.toList.length - 1) 1 d (by omega) (by
      have : d.toList.take 1 = [d.toList[0]'(by omega)] := by rw [List.take_succ_eq_append_getElem (by omega)]; simp
      rw [this]
      have e : isort lt [d.toList[0]'(by omega)] = [d.toList[0]'(by omega)] := rfl
      rw [e, ← this, List.take_append_drop])
    rw [hs] at this
    exact this
theorem posR_map (g : α → β) (lt : α → α → Bool) (lt' : β → β → Bool) (h : ∀ a b, lt a b = lt' (g a) (g b)) (x : α) (out : List α) : ∀ k, k ≤ out.length → posR lt' (g x) (out.map g) k = posR lt x out k := by
  intro k
  induction k with
  | zero => intro _; rfl
  | succ k ih =>
    intro hk
    unfold posR
    have e1 : (out.map g).getD k default = g (out[k]'(by omega)) := by simp [show k < out.length from by omega]
    have e2 : out.getD k default = out[k]'(by omega) := by simp [show k < out.length from by omega]
    rw [e1, e2, ← h, ih (by omega)]
theorem isort_map (g : α → β) (lt : α → α → Bool) (lt' : β → β → Bool) (h : ∀ a b, lt a b = lt' (g a) (g b)) (l : List α) : isort lt' (l.map g) = (isort lt l).map g := by
  have key : ∀ (l out : List α), (l.map g).foldl (fun out x => insR lt' x out) (out.map g) = (l.foldl (fun out x => insR lt x out) out).map g := by
    intro l
    induction l with
    | nil => intro out; rfl
    | cons x t ih =>
      intro out
      rw [List.map_cons, List.foldl_cons, List.foldl_cons, ← ih (insR lt x out)]
      congr 1
      unfold insR
      rw [List.length_map, posR_map g lt lt' h x out _ (Nat.le_refl _)]
      simp
  exact key l []
end
/-- A row of rows of the call's own, laid open: its block g, the cells cur, the headers hs; f: which element a block belongs to. -/
structure OpenS (w : World) (e3 e base : Nat) (ok : Nat → Prop) (v : Value) (xs : List (List Int)) (g cap : Nat) (cur : Array Value) (hs : List Hd) (f : Nat → Nat) : Prop where
  val : v = .slice (some ⟨g, 0, none⟩) xs.length cap
  ge : base ≤ g
  len : xs.length ≤ cap
  cm : cap ≤ maxLen
  blk : w.heap[g]? = some (.cells cur e (0, 0))
  size : cur.size = cap
  hlen : hs.length = xs.length
  hd : ∀ j (hj : j < hs.length), cur[j]? = some (encH hs[j])
  okg : ok g
  el : ∀ (j : Nat) (x : List Int) (h : Hd), xs[j]? = some x → hs[j]? = some h → Kd.R (Kd.int .i64) e3 w base (fun k => (ok k ∧ k ≠ g) ∧ f k = j) (encH h) x
theorem open_S {w : World} {e3 e base : Nat} {ok : Nat → Prop} {v : Value} {xs : List (List Int)} (h : Kd.S (Kd.slice e3 (Kd.int .i64)) e w base ok v xs) (hn : 0 < xs.length) :
    ∃ g cap cur hs f, OpenS w e3 e base ok v xs g cap cur hs f := by
  obtain ⟨f, hok, inner, ⟨h1, h2⟩, hr⟩ := h
  have hz : xs.zipIdx.length = xs.length := List.length_zipIdx
  rcases h2 with ⟨_, h0⟩ | ⟨g, cap, cur, rfl, hg, hh, hc, hm, hs, ht⟩
  · omega
  · have hsz : (Kd.tag f (Kd.slice e3 (Kd.int .i64))).sz = 1 := rfl
    rw [hsz, Nat.mul_one] at h1 ht hs
    have hex : ∀ j : Fin xs.length, ∃ h : Hd, cur[j.1]? = some (encH h) ∧ Kd.R (Kd.int .i64) e3 w base (fun k => (ok k ∧ k ≠ g) ∧ f k = j.1) (encH h) xs[j.1] := by
      intro j
      have hj := j.2
      have hx : xs[j.1]? = some xs[j.1] := List.getElem?_eq_getElem hj
      have hM := hr.2 j.1 _ (Kd.zip_at hx)
      rw [hsz, Nat.mul_one] at hM
      have hji : j.1 < inner.length := by omega
      obtain ⟨v', e1, hR⟩ := hM
      rw [List.drop_eq_getElem_cons hji] at e1
      injection e1 with e1 _
      obtain ⟨A, c, e2⟩ := Kd.R_slice hR
      have e2' : v' = encH (A, xs[j.1].length, c) := e2
      refine ⟨(A, xs[j.1].length, c), ?_, ?_⟩
      · have : cur.toList[j.1]? = some inner[j.1] := by
          have := List.getElem?_eq_getElem hji
          rw [← this, ← ht, List.getElem?_take, if_pos (by omega)]
        rw [← e2', ← e1]
        simpa using this
      · rw [← e2']
        refine Kd.R_mono hR (fun k hk => ⟨⟨hk.1.1, fun e0 => ?_⟩, hk.2⟩)
        subst e0
        exact hk.1.2 rfl
    have hch := fun j => Classical.choose_spec (hex j)
    refine ⟨g, cap, cur, List.ofFn (fun j => Classical.choose (hex j)), f, by rw [hz], hg, by omega, hm, hh, hs, by simp, ?_, hok g rfl, ?_⟩
    · intro j hj
      have hj' : j < xs.length := by simpa using hj
      rw [List.getElem_ofFn]
      exact (hch ⟨j, hj'⟩).1
    · intro j x h hx hh'
      have hj' : j < xs.length := (List.getElem?_eq_some_iff.1 hx).1
      rw [List.getElem?_eq_getElem hj'] at hx
      rw [List.getElem?_ofFn, dif_pos hj'] at hh'
      injection hx with hx
      injection hh' with hh'
      subst hx hh'
      exact (hch ⟨j, hj'⟩).2
/-- .. shut. -/
theorem OpenS.shut {w : World} {e3 e base : Nat} {ok : Nat → Prop} {v : Value} {xs : List (List Int)} {g cap : Nat} {cur : Array Value} {hs : List Hd} {f : Nat → Nat} (O : OpenS w e3 e base ok v xs g cap cur hs f) :
    Kd.S (Kd.slice e3 (Kd.int .i64)) e w base ok v xs := by
  have hv := O.val
  have hl := O.hlen
  have h1c := O.len
  have hsz := O.size
  have hz : xs.zipIdx.length = xs.length := List.length_zipIdx
  refine ⟨f, fun k hk => ?_, hs.map encH, ⟨?_, .inr ⟨g, cap, cur, ?_, O.ge, O.blk, ?_, O.cm, ?_, ?_⟩⟩, ?_, ?_⟩
  · rw [hv] at hk; simp only [Value.ownBlock, Option.some.injEq] at hk; subst hk; exact O.okg
  · show _ = _ * 1
    rw [hz]; simp [hl]
  · rw [hz, hv]
  · rw [hz]; exact O.len
  · show _ = cap * 1
    omega
  · show List.take (_ * 1) _ = _
    rw [hz, Nat.mul_one]
    refine List.ext_getElem? fun j => ?_
    rw [List.getElem?_take]
    by_cases hj : j < hs.length
    · rw [if_pos (by omega), List.getElem?_map, List.getElem?_eq_getElem hj]
      have := O.hd j hj
      simpa using this
    · rw [if_neg (by omega), List.getElem?_eq_none (by simp; omega)]
  · show _ = _ * 1
    rw [hz]; simp [hl]
  · intro j p hp
    rw [List.getElem?_zipIdx, Nat.zero_add] at hp
    obtain ⟨x, hx, rfl⟩ : ∃ x, xs[j]? = some x ∧ (x, j) = p := by
      cases hq : xs[j]? with
      | none => rw [hq] at hp; cases hp
      | some x => rw [hq] at hp; exact ⟨x, rfl, Option.some.inj hp⟩
    have hj : j < xs.length := (List.getElem?_eq_some_iff.1 hx).1
    have hj' : j < hs.length := by omega
    have e1 : ((hs.map encH).drop (j * (Kd.tag f (Kd.slice e3 (Kd.int .i64))).sz)).take (Kd.tag f (Kd.slice e3 (Kd.int .i64))).sz = [encH hs[j]] := by
      show ((hs.map encH).drop (j * 1)).take 1 = _
      rw [Nat.mul_one, List.drop_eq_getElem_cons (by simpa using hj')]
      simp
    rw [e1]
    refine ⟨encH hs[j], rfl, Kd.R_mono (O.el j x _ hx (List.getElem?_eq_getElem hj')) (fun k hk => ⟨⟨hk.1.1, fun e0 => ?_⟩, hk.2⟩)⟩
    rw [hv] at e0
    simp only [Value.ownBlock, Option.some.injEq] at e0
    exact hk.1.2 e0
/-- The headers in another order, all other blocks as they were. -/
theorem OpenS.perm {w W : World} {e3 e base : Nat} {ok : Nat → Prop} {v : Value} {xs ys : List (List Int)} {g cap : Nat} {cur cur' : Array Value} {hs hs' : List Hd} {f : Nat → Nat} (O : OpenS w e3 e base ok v xs g cap cur hs f)
    (hW : ∀ k, k ≠ g → W.heap[k]? = w.heap[k]?) (hb : W.heap[g]? = some (.cells cur' e (0, 0))) (hc : cur'.size = cap) (hl : ys.length = xs.length) (hl' : hs'.length = xs.length)
    (hd : ∀ j (hj : j < hs'.length), cur'[j]? = some (encH hs'[j])) (σ τ : Nat → Nat) (hp : ∀ (j : Nat) (y : List Int) (h : Hd), ys[j]? = some y → hs'[j]? = some h → xs[σ j]? = some y ∧ hs[σ j]? = some h ∧ τ (σ j) = j) :
    OpenS W e3 e base ok v ys g cap cur' hs' (fun k => τ (f k)) where
  val := by rw [hl]; exact O.val
  ge := O.ge
  len := by rw [hl]; exact O.len
  cm := O.cm
  blk := hb
  size := hc
  hlen := by rw [hl', hl]
  hd := hd
  okg := O.okg
  el := fun j y h hy hh => by
    obtain ⟨e1, e2, e3'⟩ := hp j y h hy hh
    exact Kd.R_move (Kd.R_mono (O.el _ y h e1 e2) (fun k hk => ⟨hk.1, by rw [hk.2]; exact e3'⟩)) (fun k hk => hW k hk.1.2)
theorem OpenS.reads {w W : World} {e3 e base : Nat} {ok : Nat → Prop} {v : Value} {xs : List (List Int)} {g cap : Nat} {cur : Array Value} {hs : List Hd} {f : Nat → Nat} (O : OpenS w e3 e base ok v xs g cap cur hs f)
    (hW : ∀ k, k ≠ g → k < w.heap.size → W.heap[k]? = w.heap[k]?) (j : Nat) (hj : j < xs.length) (hj' : j < hs.length) : hs[j].2.1 = xs[j].length ∧ xs[j].length ≤ hs[j].2.2 ∧ Kd.C (Kd.int .i64) W hs[j].1 xs[j].length xs[j] := by
  have h := O.el j xs[j] hs[j] (List.getElem?_eq_getElem hj) (List.getElem?_eq_getElem hj')
  have h2 := Kd.R_move (w1 := W) (Kd.R_bound h) (fun k hk => hW k hk.1.1.2 hk.2.2.1)
  have h3 : (Kd.slice e3 (Kd.int .i64)).M W base _ xs[j] [encH hs[j]] := ⟨_, rfl, h2⟩
  obtain ⟨A, c, e1, hc, hC⟩ := (Kd.slice e3 (Kd.int .i64)).K_of_M h3
  injection e1 with e1 _
  unfold encH at e1
  injection e1 with e2 e3' e4
  rw [e2, e3', e4]
  exact ⟨rfl, hc, hC⟩
/-- The order into which the insertion sort puts n things of which the i-th is told by xs[i]. -/
def order {n : Nat} (hn : 0 < n) (cf : Fin n → Fin n → Int) : Array (Fin n) := letI : Inhabited (Fin n) := ⟨⟨0, hn⟩⟩; insertionSort (ltOf cf) (Array.ofFn id) 0 n
theorem order_toList {n : Nat} (hn : 0 < n) (cf : Fin n → Fin n → Int) : (order hn cf).toList = letI : Inhabited (Fin n) := ⟨⟨0, hn⟩⟩; isort (ltOf cf) (List.ofFn id) := by
  letI : Inhabited (Fin n) := ⟨⟨0, hn⟩⟩
  have := insertionSort_toList (ltOf cf) (Array.ofFn (id : Fin n → Fin n))
  rw [Array.size_ofFn, Array.toList_ofFn] at this
  exact this
theorem OpenS.sorted {w W : World} {e3 e base : Nat} {ok : Nat → Prop} {v : Value} {xs : List (List Int)} {g cap : Nat} {cur cur' : Array Value} {hs : List Hd} {f : Nat → Nat} (O : OpenS w e3 e base ok v xs g cap cur hs f) (hn : 0 < xs.length)
    (cmp : List Int → List Int → Int) (hW : ∀ k, k ≠ g → W.heap[k]? = w.heap[k]?) (hb : W.heap[g]? = some (.cells cur' e (0, 0))) (hc : cur'.size = cap)
    (cf : Fin xs.length → Fin xs.length → Int) (hcf : ∀ a b : Fin xs.length, cf a b = cmp xs[a.1] xs[b.1]) (od : Array (Fin xs.length)) (hod : od = order hn cf)
    (hcur : ∀ j (hj : j < od.toList.length), cur'[j]? = some (encH (hs[(od.toList[j]).1]'(by rw [O.hlen]; exact Fin.isLt _)))) :
    ∃ hs' f', OpenS W e3 e base ok v (isort (fun a b => decide (cmp a b < 0)) xs) g cap cur' hs' f' := by
  letI : Inhabited (Fin xs.length) := ⟨⟨0, hn⟩⟩
  have hl := O.hlen
  have e0 := order_toList hn cf
  rw [← hod] at e0
  have hperm : od.toList.Perm (List.ofFn (id : Fin xs.length → Fin xs.length)) := by rw [e0]; exact isort_perm _ _
  have hlen : od.toList.length = xs.length := by rw [hperm.length_eq]; simp
  have hnd : od.toList.Nodup := hperm.nodup_iff.2 (by
    unfold List.Nodup
    rw [List.pairwise_iff_getElem]
    intro i j hi hj hij e
    simp only [List.getElem_ofFn, id] at e
    injection e with e
    omega)
  have hys : isort (fun a b => decide (cmp a b < 0)) xs = od.toList.map (fun i => xs[i.1]) := by
    have h1 : (List.ofFn (id : Fin xs.length → Fin xs.length)).map (fun i => xs[i.1]) = xs := by
      refine List.ext_getElem (by simp) fun i h1 h2 => by simp
    have h2 := isort_map (fun i : Fin xs.length => xs[i.1]) (ltOf cf) (fun a b => decide (cmp a b < 0)) (fun a b => by unfold ltOf; rw [hcf]) (List.ofFn id)
    rw [h1] at h2
    rw [h2, e0]
  obtain ⟨τ, hτ⟩ : ∃ τ : Nat → Nat, ∀ j (hj : j < od.toList.length), τ (od.toList[j]).1 = j := by
    refine ⟨fun i => if h : ∃ j, ∃ hj : j < od.toList.length, (od.toList[j]).1 = i then Classical.choose h else 0, fun j hj => ?_⟩
    have hE : ∃ m, ∃ hm : m < od.toList.length, (od.toList[m]).1 = (od.toList[j]).1 := ⟨j, hj, rfl⟩
    show (if h : _ then _ else _) = _
    rw [dif_pos hE]
    obtain ⟨hm, e⟩ := Classical.choose_spec hE
    exact (List.getElem_inj hnd).1 (Fin.ext e)
  refine ⟨od.toList.map (fun i => hs[i.1]'(by rw [hl]; exact i.2)), fun k => τ (f k), ?_⟩
  rw [hys]
  refine O.perm hW hb hc (by rw [List.length_map]; exact hlen) (by rw [List.length_map]; exact hlen) ?_ (fun j => if h : j < od.toList.length then (od.toList[j]).1 else 0) τ ?_
  · intro j hj
    have hj' : j < od.toList.length := by simpa using hj
    rw [hcur j hj', List.getElem_map]
  · intro j y h hy hh
    have hj : j < od.toList.length := by
      have := (List.getElem?_eq_some_iff.1 hy).1
      simpa using this
    rw [List.getElem?_map, List.getElem?_eq_getElem hj, Option.map_some] at hy hh
    injection hy with hy
    injection hh with hh
    subst hy hh
    refine ⟨?_, ?_, ?_⟩
    · rw [dif_pos hj, List.getElem?_eq_getElem (Fin.isLt _)]
    · rw [dif_pos hj, List.getElem?_eq_getElem (by rw [hl]; exact Fin.isLt _)]
    · rw [dif_pos hj]; exact hτ j hj
/-- One inner row of two numbers, laid open. -/
theorem OpenS.row {w : World} {e3 e base : Nat} {ok : Nat → Prop} {v : Value} {xs : List (List Int)} {g cap : Nat} {cur : Array Value} {hs : List Hd} {f : Nat → Nat} (O : OpenS w e3 e base ok v xs g cap cur hs f) (j : Nat) (hj : j < xs.length) (hj' : j < hs.length) (h2 : xs[j].length = 2) :
    ∃ b c cu, hs[j] = (some ⟨b, 0, none⟩, 2, c) ∧ 2 ≤ c ∧ c ≤ maxLen ∧ base ≤ b ∧ b ≠ g ∧ f b = j ∧ ok b ∧ w.heap[b]? = some (.cells cu e3 (0, 0)) ∧ cu.size = c ∧ cu[0]? = some (.int .i64 (rd xs[j] 0)) ∧ cu[1]? = some (.int .i64 (rd xs[j] 1)) := by
  obtain ⟨hok, inner, ⟨h1, h3⟩, hr⟩ := O.el j xs[j] hs[j] (List.getElem?_eq_getElem hj) (List.getElem?_eq_getElem hj')
  have hsz : (Kd.int .i64).sz = 1 := rfl
  rw [hsz, Nat.mul_one] at h1
  rcases h3 with ⟨_, h0⟩ | ⟨b, c, cu, e1, hb, hh, hc, hm, hs', ht⟩
  · omega
  · rw [hsz, Nat.mul_one] at hs' ht
    unfold encH at e1
    injection e1 with e2 e3' e4
    have hob : (encH hs[j]).ownBlock = some b := by unfold encH; rw [e2]; rfl
    obtain ⟨⟨hk1, hk2⟩, hk3⟩ := hok b hob
    obtain ⟨x0, x1, hx⟩ : ∃ a b, xs[j] = [a, b] := by
      match hq : xs[j], h2 with
      | [a, b], _ => exact ⟨a, b, rfl⟩
    have g0 := hr.2 0 x0 (by rw [hx]; rfl)
    have g1 := hr.2 1 x1 (by rw [hx]; rfl)
    have g0' : (inner.drop 0).take 1 = [.int .i64 x0] := g0
    have g1' : (inner.drop 1).take 1 = [.int .i64 x1] := g1
    have hil : inner.length = 2 := by omega
    obtain ⟨u0, u1, hin⟩ : ∃ a b, inner = [a, b] := by
      match hq : inner, hil with
      | [a, b], _ => exact ⟨a, b, rfl⟩
    rw [hin] at g0' g1' ht
    simp only [List.drop_zero, List.take_succ_cons, List.take_zero, List.drop_succ_cons] at g0' g1'
    injection g0' with g0' _
    injection g1' with g1' _
    have hcu : ∀ i, i < 2 → cu[i]? = ([u0, u1] : List Value)[i]? := by
      intro i hi
      rw [← ht, List.getElem?_take, if_pos (by omega)]
      simp
    refine ⟨b, c, cu, ?_, by omega, hm, hb, hk2, hk3, hk1, hh, hs', ?_, ?_⟩
    · rw [← e2, ← e4, ← h2, ← e3']
    · rw [hcu 0 (by omega), hx, g0']; rfl
    · rw [hcu 1 (by omega), hx, g1']; rfl
/-- .. and written. -/
theorem OpenS.set {w W : World} {e3 e base : Nat} {ok : Nat → Prop} {v : Value} {xs : List (List Int)} {g cap : Nat} {cur : Array Value} {hs : List Hd} {f : Nat → Nat} (O : OpenS w e3 e base ok v xs g cap cur hs f) {j : Nat} (hj : j < xs.length) (hj' : j < hs.length) {b c : Nat} {cu : Array Value} {u0 u1 : Int}
    (hh : hs[j] = (some ⟨b, 0, none⟩, 2, c)) (hc : 2 ≤ c) (hm : c ≤ maxLen) (hb : base ≤ b) (hbg : b ≠ g) (hf : f b = j) (hok : ok b) (hW : ∀ k, k ≠ b → W.heap[k]? = w.heap[k]?) (hWb : W.heap[b]? = some (.cells cu e3 (0, 0))) (hsz : cu.size = c) (h0 : cu[0]? = some (.int .i64 u0)) (h1 : cu[1]? = some (.int .i64 u1)) :
    OpenS W e3 e base ok v (xs.set j [u0, u1]) g cap cur hs f where
  val := by rw [List.length_set]; exact O.val
  ge := O.ge
  len := by rw [List.length_set]; exact O.len
  cm := O.cm
  blk := by rw [hW g (fun e => hbg e.symm)]; exact O.blk
  size := O.size
  hlen := by rw [List.length_set]; exact O.hlen
  hd := O.hd
  okg := O.okg
  el := fun i x h hx hh' => by
    by_cases hij : j = i
    · subst hij
      rw [List.getElem?_set_self hj] at hx
      injection hx with hx
      subst hx
      rw [List.getElem?_eq_getElem hj', hh] at hh'
      injection hh' with hh'
      subst hh'
      refine ⟨fun k hk => ?_, [.int .i64 u0, .int .i64 u1], ⟨rfl, .inr ⟨b, c, cu, rfl, hb, hWb, hc, hm, by rw [hsz]; exact (Nat.mul_one c).symm, ?_⟩⟩, ?_⟩
      · simp only [encH, Value.ownBlock, Option.some.injEq] at hk
        subst hk
        exact ⟨⟨hok, hbg⟩, hf⟩
      · show cu.toList.take (2 * 1) = _
        refine List.ext_getElem? fun i => ?_
        rw [List.getElem?_take]
        match i with
        | 0 => rw [if_pos (by decide)]; simpa using h0
        | 1 => rw [if_pos (by decide)]; simpa using h1
        | i + 2 => rw [if_neg (by omega)]; rfl
      · refine ⟨rfl, fun i p hp => ?_⟩
        match i with
        | 0 => injection hp with hp; subst hp; exact rfl
        | 1 => injection hp with hp; subst hp; exact rfl
        | i + 2 => simp at hp
    · rw [List.getElem?_set_ne hij] at hx
      exact Kd.R_move (O.el i x h hx hh') (fun k hk => hW k (fun e => by subst e; exact hij (hf.symm.trans hk.2)))
/-- The same memory. -/
theorem OpenS.move {w W : World} {e3 e base : Nat} {ok : Nat → Prop} {v : Value} {xs : List (List Int)} {g cap : Nat} {cur : Array Value} {hs : List Hd} {f : Nat → Nat} (O : OpenS w e3 e base ok v xs g cap cur hs f) (hW : ∀ k, k < w.heap.size → W.heap[k]? = w.heap[k]?) :
    OpenS W e3 e base ok v xs g cap cur hs f where
  val := O.val
  ge := O.ge
  len := O.len
  cm := O.cm
  blk := by rw [hW g (Array.getElem?_eq_some_iff.1 O.blk).1]; exact O.blk
  size := O.size
  hlen := O.hlen
  hd := O.hd
  okg := O.okg
  el := fun j x h hx hh => Kd.R_mono (Kd.R_move (Kd.R_bound (O.el j x h hx hh)) (fun k hk => hW k hk.2.2.1)) (fun k hk => hk.1)
end Go.Proofs.Ytdjddfeokpmfaaa.HSrt
