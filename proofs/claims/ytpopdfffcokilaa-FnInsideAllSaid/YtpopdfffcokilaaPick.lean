import Derived.Test.YtpopdfffcokilaaBase
import Derived.Test.YtpopdfffcokilaaPth
import Derived.Test.YtpopdfffcokilaaRim
import Derived.Test.YtpopdfffcokilaaInn
/- Towards Pick's theorem for convex lattice paths: quotients, sums along one edge, rows counted. No program in sight. -/
set_option linter.unusedVariables false
set_option linter.unusedSimpArgs false
namespace Go.Proofs.Ytpopdfffcokilaa.Pick
open Go.Proofs.Ytpopdfffcokilaa.Pth Go.Proofs.Ytpopdfffcokilaa.Base Go.Proofs.Ytpopdfffcokilaa.Rim Go.Proofs.Ytpopdfffcokilaa.Inn
def cdiv (a b : Int) : Int := -((-a) / b)
theorem lt_cdiv {a b x : Int} (hb : 0 < b) : x < cdiv a b ↔ x * b < a := by
  unfold cdiv
  have h := Int.ediv_lt_iff_lt_mul (a := -a) (b := -x) hb
  rw [Int.neg_mul] at h
  omega
theorem div_lt {a b x : Int} (hb : 0 < b) : a / b < x ↔ a < x * b := Int.ediv_lt_iff_lt_mul hb
def ups (dx : Int) (dy n : Nat) : Int := S (fun j => cdiv (dx * j) dy) 0 n
def downs (dx : Int) (m n : Nat) : Int := S (fun j => (dx * j) / m) 1 n
theorem ups_fin : ∀ i ∈ List.range 19, ∀ j ∈ List.range 9, 2 * ups ((i : Int) - 9) (j + 1) (j + 1) = ((i : Int) - 9) * ((j + 1 : Nat) : Int) - ((i : Int) - 9) + ((j + 1 : Nat) : Int) - dv ((i : Int) - 9, ((j + 1 : Nat) : Int)) := by decide +kernel
theorem downs_fin : ∀ i ∈ List.range 19, ∀ j ∈ List.range 9, 2 * downs ((i : Int) - 9) (j + 1) (j + 1) = ((i : Int) - 9) * ((j + 1 : Nat) : Int) + ((i : Int) - 9) - ((j + 1 : Nat) : Int) + dv ((i : Int) - 9, -((j + 1 : Nat) : Int)) := by decide +kernel
theorem ups_eq {dx : Int} (hx : -9 ≤ dx ∧ dx ≤ 9) {n : Nat} (hn : 1 ≤ n ∧ n ≤ 9) : 2 * ups dx n n = dx * n - dx + n - dv (dx, (n : Int)) := by
  obtain ⟨i, hi⟩ := Int.eq_ofNat_of_zero_le (show 0 ≤ dx + 9 by omega)
  obtain ⟨j, rfl⟩ : ∃ j, n = j + 1 := ⟨n - 1, by omega⟩
  have h := ups_fin i (List.mem_range.2 (by omega)) j (List.mem_range.2 (by omega))
  rw [show (i : Int) - 9 = dx from by omega] at h
  exact h
theorem downs_eq {dx : Int} (hx : -9 ≤ dx ∧ dx ≤ 9) {n : Nat} (hn : 1 ≤ n ∧ n ≤ 9) : 2 * downs dx n n = dx * n + dx - n + dv (dx, -(n : Int)) := by
  obtain ⟨i, hi⟩ := Int.eq_ofNat_of_zero_le (show 0 ≤ dx + 9 by omega)
  obtain ⟨j, rfl⟩ : ∃ j, n = j + 1 := ⟨n - 1, by omega⟩
  have h := downs_fin i (List.mem_range.2 (by omega)) j (List.mem_range.2 (by omega))
  rw [show (i : Int) - 9 = dx from by omega] at h
  exact h
/-- A row's count: the numbers between l and r. -/
theorem S_between {f : Int → Int} {l r lo : Int} (hf : ∀ x, f x = if l < x ∧ x < r then 1 else 0) : ∀ n : Nat, lo ≤ l + 1 → l < r → S f lo n = max 0 (min (lo + n) r - (l + 1)) := by
  intro n hlo hlr
  induction n with
  | zero => simp only [S]; omega
  | succ n ih =>
    simp only [S]
    rw [ih, hf]
    split <;> omega
theorem S_row {f : Int → Int} {l r lo : Int} {n : Nat} (hf : ∀ x, f x = if l < x ∧ x < r then 1 else 0) (h1 : lo ≤ l + 1) (h2 : l < r) (h3 : r ≤ lo + n) : S f lo n = r - l - 1 := by
  rw [S_between hf n h1 h2]
  omega
/-! ### from edge to edge -/
theorem up_prev {s t u : V} (hs : 0 < s.2) (ht : 0 < t.2) (hc : 0 ≤ cr s t) (hu : 0 ≤ u.2) (h : 0 < cr t u) : 0 < cr s u := by
  have e : t.2 * cr s u = s.2 * cr t u + u.2 * cr s t := by unfold cr; grind
  have p1 := Int.mul_pos hs h
  have p2 := Int.mul_nonneg hu hc
  refine Decidable.byContradiction fun hh => ?_
  have p3 := Int.mul_nonneg (Int.le_of_lt ht) (show 0 ≤ -cr s u by omega)
  rw [Int.mul_neg] at p3
  omega
theorem up_next {s t u : V} (hs : 0 < s.2) (ht : 0 < t.2) (hc : 0 ≤ cr s t) (hu : u.2 ≤ 0) (h : 0 < cr s u) : 0 < cr t u := by
  have e : s.2 * cr t u = t.2 * cr s u + -u.2 * cr s t := by unfold cr; grind
  have p1 := Int.mul_pos ht h
  have p2 := Int.mul_nonneg (show 0 ≤ -u.2 by omega) hc
  refine Decidable.byContradiction fun hh => ?_
  have p3 := Int.mul_nonneg (Int.le_of_lt hs) (show 0 ≤ -cr t u by omega)
  rw [Int.mul_neg] at p3
  omega
theorem down_prev {s t u : V} (hs : s.2 < 0) (ht : t.2 < 0) (hc : 0 ≤ cr s t) (hu : u.2 ≤ 0) (h : 0 < cr t u) : 0 < cr s u := by
  have := up_prev (s := neg s) (t := neg t) (u := neg u) (by simp [neg]; omega) (by simp [neg]; omega) (by simp only [cr, neg] at hc ⊢; grind) (by simp [neg]; omega) (by simp only [cr, neg] at h ⊢; grind)
  simp only [cr, neg] at this ⊢; grind
theorem down_next {s t u : V} (hs : s.2 < 0) (ht : t.2 < 0) (hc : 0 ≤ cr s t) (hu : 0 ≤ u.2) (h : 0 < cr s u) : 0 < cr t u := by
  have := up_next (s := neg s) (t := neg t) (u := neg u) (by simp [neg]; omega) (by simp [neg]; omega) (by simp only [cr, neg] at hc ⊢; grind) (by simp [neg]; omega) (by simp only [cr, neg] at h ⊢; grind)
  simp only [cr, neg] at this ⊢; grind
/-! ### chains of edges -/
/-- Each edge of the chain from X Y on has the point x y strictly on its left. -/
def allE (X Y : Int) : List V → Int → Int → Prop
  | [], _, _ => True
  | s :: t, x, y => 0 < cr s (x - X, y - Y) ∧ allE (X + s.1) (Y + s.2) t x y
/-- Neighbours turn left, or go on. -/
def turnsL : List V → Prop
  | [] => True
  | [_] => True
  | s :: t :: r => 0 ≤ cr s t ∧ turnsL (t :: r)
theorem turnsL_tail {s : V} {t : List V} (h : turnsL (s :: t)) : turnsL t := by
  cases t with
  | nil => trivial
  | cons a r => exact h.2
theorem sub_step (s : V) (x y X Y : Int) : cr s (x - (X + s.1), y - (Y + s.2)) = cr s (x - X, y - Y) := by unfold cr; dsimp only; grind
theorem allE_append (X Y : Int) (a b : List V) (x y : Int) : allE X Y (a ++ b) x y ↔ allE X Y a x y ∧ allE (X + sx a) (Y + sy a) b x y := by
  induction a generalizing X Y with
  | nil => simp [allE, sx, sy]
  | cons s t ih =>
    simp only [List.cons_append, allE]
    rw [ih, sx_cons, sy_cons, Int.add_assoc, Int.add_assoc, and_assoc]
/-- Going up: behind an edge that has the point on its left, and ends above it, so do all. -/
theorem up_rest {s : V} : ∀ (t : List V) (X Y x y : Int), 0 < s.2 → (∀ v ∈ t, 0 < v.2) → turnsL (s :: t) → y ≤ Y + s.2 → 0 < cr s (x - X, y - Y) → allE (X + s.1) (Y + s.2) t x y
  | [], _, _, _, _, _, _, _, _, _ => trivial
  | a :: r, X, Y, x, y, hs, ht, hc, hy, h => by
    have ha := ht a (by simp)
    rw [← sub_step] at h
    have hn := up_next (u := (x - (X + s.1), y - (Y + s.2))) hs ha hc.1 (by dsimp only; omega) h
    exact ⟨hn, up_rest r (X + s.1) (Y + s.2) x y ha (fun v hv => ht v (by simp [hv])) hc.2 (by omega) hn⟩
theorem down_rest {s : V} : ∀ (t : List V) (X Y x y : Int), s.2 < 0 → (∀ v ∈ t, v.2 < 0) → turnsL (s :: t) → Y + s.2 ≤ y → 0 < cr s (x - X, y - Y) → allE (X + s.1) (Y + s.2) t x y
  | [], _, _, _, _, _, _, _, _, _ => trivial
  | a :: r, X, Y, x, y, hs, ht, hc, hy, h => by
    have ha := ht a (by simp)
    rw [← sub_step] at h
    have hn := down_next (u := (x - (X + s.1), y - (Y + s.2))) hs ha hc.1 (by dsimp only; omega) h
    exact ⟨hn, down_rest r (X + s.1) (Y + s.2) x y ha (fun v hv => ht v (by simp [hv])) hc.2 (by omega) hn⟩
def rowR (X Y : Int) : List V → Int → Int
  | [], _ => X
  | s :: t, y => if y < Y + s.2 then X + cdiv (s.1 * (y - Y)) s.2 else rowR (X + s.1) (Y + s.2) t y
def rowL (X Y : Int) : List V → Int → Int
  | [], _ => X
  | s :: t, y => if Y + s.2 ≤ y then X + (s.1 * (Y - y)) / (-s.2) else rowL (X + s.1) (Y + s.2) t y
theorem up_one {s : V} {X Y x y : Int} (hs : 0 < s.2) : 0 < cr s (x - X, y - Y) ↔ x < X + cdiv (s.1 * (y - Y)) s.2 := by
  have h := lt_cdiv (a := s.1 * (y - Y)) (x := x - X) hs
  unfold cr
  dsimp only
  rw [Int.mul_comm (x - X)] at h
  omega
theorem down_one {s : V} {X Y x y : Int} (hs : s.2 < 0) : 0 < cr s (x - X, y - Y) ↔ X + (s.1 * (Y - y)) / (-s.2) < x := by
  have h := div_lt (a := s.1 * (Y - y)) (b := -s.2) (x := x - X) (by omega)
  unfold cr
  dsimp only
  rw [Int.mul_neg, Int.mul_comm (x - X)] at h
  have e : s.1 * (Y - y) = -(s.1 * (y - Y)) := by rw [← Int.mul_neg]; congr 1; omega
  rw [e] at h ⊢
  omega
theorem sy_pos {t : List V} (h : ∀ v ∈ t, 0 < v.2) : 0 ≤ sy t := by
  induction t with
  | nil => simp [sy]
  | cons v t ih => have h1 := h v (by simp); have h2 := ih (fun u hu => h u (by simp [hu])); rw [sy_cons]; omega
theorem sy_neg' {t : List V} (h : ∀ v ∈ t, v.2 < 0) : sy t ≤ 0 := by
  induction t with
  | nil => simp [sy]
  | cons v t ih => have h1 := h v (by simp); have h2 := ih (fun u hu => h u (by simp [hu])); rw [sy_cons]; omega
theorem up_row : ∀ (q : List V) (X Y x y : Int), (∀ v ∈ q, 0 < v.2) → turnsL q → Y ≤ y → y < Y + sy q → (allE X Y q x y ↔ x < rowR X Y q y)
  | [], X, Y, x, y, _, _, h1, h2 => by simp [sy] at h2; omega
  | s :: t, X, Y, x, y, hp, hc, h1, h2 => by
    have hs := hp s (by simp)
    have ht : ∀ v ∈ t, 0 < v.2 := fun v hv => hp v (by simp [hv])
    simp only [allE, rowR]
    rw [sy_cons] at h2
    by_cases c : y < Y + s.2
    · rw [if_pos c, ← up_one hs]
      exact ⟨fun h => h.1, fun h => ⟨h, up_rest t X Y x y hs ht hc (by omega) h⟩⟩
    · rw [if_neg c, ← up_row t (X + s.1) (Y + s.2) x y ht (turnsL_tail hc) (by omega) (by omega)]
      refine ⟨fun h => h.2, fun h => ⟨?_, h⟩⟩
      match t, ht, hc, h, h2 with
      | [], _, _, _, h2 => simp [sy] at h2; omega
      | a :: r, ht, hc, h, _ =>
        have := up_prev (u := (x - (X + s.1), y - (Y + s.2))) hs (ht a (by simp)) hc.1 (by dsimp only; omega) h.1
        rw [sub_step] at this
        exact this
theorem down_row : ∀ (q : List V) (X Y x y : Int), (∀ v ∈ q, v.2 < 0) → turnsL q → y < Y → Y + sy q ≤ y → (allE X Y q x y ↔ rowL X Y q y < x)
  | [], X, Y, x, y, _, _, h1, h2 => by simp [sy] at h2; omega
  | s :: t, X, Y, x, y, hp, hc, h1, h2 => by
    have hs := hp s (by simp)
    have ht : ∀ v ∈ t, v.2 < 0 := fun v hv => hp v (by simp [hv])
    simp only [allE, rowL]
    rw [sy_cons] at h2
    by_cases c : Y + s.2 ≤ y
    · rw [if_pos c, ← down_one hs]
      exact ⟨fun h => h.1, fun h => ⟨h, down_rest t X Y x y hs ht hc (by omega) h⟩⟩
    · rw [if_neg c, ← down_row t (X + s.1) (Y + s.2) x y ht (turnsL_tail hc) (by omega) (by omega)]
      refine ⟨fun h => h.2, fun h => ⟨?_, h⟩⟩
      match t, ht, hc, h, h2 with
      | [], _, _, _, h2 => simp [sy] at h2; omega
      | a :: r, ht, hc, h, _ =>
        have := down_prev (u := (x - (X + s.1), y - (Y + s.2))) hs (ht a (by simp)) hc.1 (by dsimp only; omega) h.1
        rw [sub_step] at this
        exact this
/-! ### sums over the rows -/
def AX (X : Int) : List V → Int
  | [] => 0
  | s :: t => 2 * X * s.2 + s.1 * s.2 + AX (X + s.1) t
theorem AX_append (X : Int) (a b : List V) : AX X (a ++ b) = AX X a + AX (X + sx a) b := by
  induction a generalizing X with
  | nil => simp [AX, sx]
  | cons s t ih =>
    simp only [List.cons_append, AX]
    rw [ih, sx_cons, Int.add_assoc X]
    omega
theorem AF_AX (X Y : Int) (q : List V) : AF X Y q = AX X q - ((X + sx q) * (Y + sy q) - X * Y) := by
  induction q generalizing X Y with
  | nil => simp [AF, AX, sx, sy]
  | cons s t ih =>
    simp only [AF, AX]
    rw [ih, sx_cons, sy_cons]
    grind
theorem A_AX {q : List V} (hx : sx q = 0) (hy : sy q = 0) : A q = AX 0 q := by
  unfold A; rw [AF_AX, hx, hy]; simp
theorem S_shift (f : Int → Int) (a lo : Int) (n : Nat) : S (fun j => f (j + a)) lo n = S f (lo + a) n := by
  induction n with
  | zero => rfl
  | succ n ih => simp only [S]; rw [ih, show lo + (n : Int) + a = lo + a + n from by omega]
theorem S_const_add (f : Int → Int) (c lo : Int) (n : Nat) : S (fun j => c + f j) lo n = c * n + S f lo n := by
  induction n with
  | zero => simp [S]
  | succ n ih =>
    simp only [S]; rw [ih]
    have e : c * ((n + 1 : Nat) : Int) = c * (n : Int) + c := by push_cast; rw [Int.mul_add, Int.mul_one]
    rw [e]; omega
/-- The same sum from the other end. -/
theorem S_first (f : Int → Int) (lo : Int) (n : Nat) : S f lo (n + 1) = f lo + S f (lo + 1) n := by
  have := S_add f lo 1 n
  rw [Nat.add_comm 1 n] at this
  rw [this]
  simp [S]
theorem S_flip (f : Int → Int) (lo : Int) (n : Nat) : S (fun j => f (-j)) lo n = S f (1 - lo - n) n := by
  induction n with
  | zero => rfl
  | succ n ih =>
    rw [S_first f]
    simp only [S]
    rw [ih, show 1 - lo - ((n + 1 : Nat) : Int) + 1 = 1 - lo - n from by omega, show -(lo + (n : Int)) = 1 - lo - ((n + 1 : Nat) : Int) from by omega]
    omega
theorem sumR : ∀ (q : List V) (X Y : Int) (h : Nat), (∀ v ∈ q, 0 < v.2 ∧ stepV v) → sy q = h → 2 * S (rowR X Y q) Y h = AX X q - sx q + sy q - rim q
  | [], X, Y, h, _, hh => by
    have : h = 0 := by simp [sy] at hh; omega
    subst this
    simp [S, AX, sx, sy, rim_nil]
  | s :: t, X, Y, h, hp, hh => by
    have hs := hp s (by simp)
    have ht : ∀ v ∈ t, 0 < v.2 ∧ stepV v := fun v hv => hp v (by simp [hv])
    have hst := hs.2
    simp only [stepV] at hst
    have hty := sy_pos (fun v hv => (ht v hv).1)
    rw [sy_cons] at hh
    obtain ⟨n, hn⟩ := Int.eq_ofNat_of_zero_le (Int.le_of_lt hs.1)
    obtain ⟨m, hm⟩ := Int.eq_ofNat_of_zero_le hty
    have e : h = n + m := by omega
    subst e
    have ih := sumR t (X + s.1) (Y + s.2) m ht hm
    have e1 : S (rowR X Y (s :: t)) Y n = X * n + ups s.1 n n := by
      have c1 : S (rowR X Y (s :: t)) Y n = S (fun y => X + (fun j => cdiv (s.1 * j) n) (y + -Y)) Y n := by
        refine S_congr (fun i hi => ?_)
        simp only [rowR]
        rw [if_pos (by omega), hn, show Y + (i : Int) - Y = Y + (i : Int) + -Y from by omega]
      rw [c1, S_const_add, S_shift (fun j => cdiv (s.1 * j) n), show Y + -Y = 0 from by omega]
      rfl
    have e2 : S (rowR X Y (s :: t)) (Y + n) m = S (rowR (X + s.1) (Y + s.2) t) (Y + s.2) m := by
      rw [← hn]
      refine S_congr (fun i hi => ?_)
      simp only [rowR]
      rw [if_neg (by omega)]
    have u := ups_eq (dx := s.1) (by omega) (n := n) (by omega)
    have er : rim (s :: t) = dv s + rim t := by rw [show s :: t = [s] ++ t from rfl, rim_append]; simp [rim]
    have ev : dv (s.1, (n : Int)) = dv s := by rw [← hn]
    rw [S_add, e1, e2, Int.mul_add, ih, er, AX, sx_cons, sy_cons, Int.mul_add, u, ev, ← hn]
    grind
theorem sumL : ∀ (q : List V) (X Y : Int) (h : Nat), (∀ v ∈ q, v.2 < 0 ∧ stepV v) → -sy q = h → 2 * S (rowL X Y q) (Y - h) h = -AX X q + sx q + sy q + rim q
  | [], X, Y, h, _, hh => by
    have : h = 0 := by simp [sy] at hh; omega
    subst this
    simp [S, AX, sx, sy, rim_nil]
  | s :: t, X, Y, h, hp, hh => by
    have hs := hp s (by simp)
    have ht : ∀ v ∈ t, v.2 < 0 ∧ stepV v := fun v hv => hp v (by simp [hv])
    have hst := hs.2
    simp only [stepV] at hst
    have hty := sy_neg' (fun v hv => (ht v hv).1)
    rw [sy_cons] at hh
    obtain ⟨n, hn⟩ := Int.eq_ofNat_of_zero_le (show 0 ≤ -s.2 by omega)
    obtain ⟨m, hm⟩ := Int.eq_ofNat_of_zero_le (show 0 ≤ -sy t by omega)
    have e : h = m + n := by omega
    subst e
    have ih := sumL t (X + s.1) (Y + s.2) m ht hm
    have e1 : S (rowL X Y (s :: t)) (Y - ((m + n : Nat) : Int) + m) n = X * n + downs s.1 n n := by
      have c1 : S (rowL X Y (s :: t)) (Y - n) n = S (fun y => X + (fun z => (s.1 * -z) / n) (y + -Y)) (Y - n) n := by
        refine S_congr (fun i hi => ?_)
        simp only [rowL]
        rw [if_pos (by omega), hn, show Y - (Y - (n : Int) + (i : Int)) = -(Y - (n : Int) + (i : Int) + -Y) from by omega]
      rw [show Y - ((m + n : Nat) : Int) + m = Y - n from by omega, c1, S_const_add, S_shift (fun z => (s.1 * -z) / n), show Y - (n : Int) + -Y = 1 - 1 - n from by omega]
      have := S_flip (fun z => (s.1 * -z) / n) 1 n
      rw [← this]
      unfold downs
      congr 1
      refine S_congr (fun i _ => ?_)
      simp
    have e2 : S (rowL X Y (s :: t)) (Y - ((m + n : Nat) : Int)) m = S (rowL (X + s.1) (Y + s.2) t) (Y + s.2 - m) m := by
      rw [show Y - ((m + n : Nat) : Int) = Y + s.2 - m from by omega]
      refine S_congr (fun i hi => ?_)
      simp only [rowL]
      rw [if_neg (by omega)]
    have u := downs_eq (dx := s.1) (by omega) (n := n) (by omega)
    have er : rim (s :: t) = dv s + rim t := by rw [show s :: t = [s] ++ t from rfl, rim_append]; simp [rim]
    have ev : dv (s.1, -(n : Int)) = dv s := by rw [← hn, Int.neg_neg]
    rw [S_add, e1, e2, Int.mul_add, ih, er, AX, sx_cons, sy_cons, Int.mul_add, u, ev, ← hn]
    grind
/-! ### the whole -/
theorem allE_iff : ∀ (q : List V) (X Y x y : Int), allE X Y q x y ↔ ∀ e, e < q.length → 0 < cr (q.getD e (0, 0)) (x - (X + sx (q.take e)), y - (Y + sy (q.take e)))
  | [], X, Y, x, y => by simp [allE]
  | s :: t, X, Y, x, y => by
    simp only [allE]
    rw [allE_iff t (X + s.1) (Y + s.2) x y]
    constructor
    · intro h e he
      cases e with
      | zero => simpa [sx, sy] using h.1
      | succ e =>
        have := h.2 e (by simpa using he)
        rw [List.getD_cons_succ, List.take_succ_cons, sx_cons, sy_cons, ← Int.add_assoc, ← Int.add_assoc]
        exact this
    · intro h
      refine ⟨by simpa [sx, sy] using h 0 (by simp), fun e he => ?_⟩
      have := h (e + 1) (by simpa using he)
      rw [List.getD_cons_succ, List.take_succ_cons, sx_cons, sy_cons, ← Int.add_assoc, ← Int.add_assoc] at this
      exact this
theorem inB_allE (q : List V) (x y : Int) : inB q x y = true ↔ allE 0 0 q x y := by
  rw [allE_iff]
  unfold inB
  rw [List.all_eq_true]
  simp only [List.mem_range, posE, edge, Int.zero_add]
  exact ⟨fun h e he => of_decide_eq_true (h e he), fun h e he => decide_eq_true (h e he)⟩
theorem rowR_first {s : V} {t : List V} (X Y : Int) (hs : 0 < s.2) : rowR X Y (s :: t) Y = X := by
  simp only [rowR]
  rw [if_pos (by omega), Int.sub_self, Int.mul_zero]
  simp [cdiv]
theorem rowL_last : ∀ (q : List V) (X Y : Int), q ≠ [] → (∀ v ∈ q, v.2 < 0) → rowL X Y q (Y + sy q) = X + sx q
  | [], _, _, h, _ => absurd rfl h
  | [s], X, Y, _, hp => by
    have hs := hp s (by simp)
    simp only [rowL]
    have e1 : sy [s] = s.2 := by simp [sy]
    have e2 : sx [s] = s.1 := by simp [sx]
    rw [e1, e2, if_pos (Int.le_refl _), show Y - (Y + s.2) = -s.2 from by omega, Int.mul_ediv_cancel _ (by omega)]
  | s :: a :: r, X, Y, _, hp => by
    have ha := hp a (by simp)
    have hr := sy_neg' (t := r) (fun v hv => hp v (by simp [hv]))
    have ih := rowL_last (a :: r) (X + s.1) (Y + s.2) (by simp) (fun v hv => hp v (by simp [hv]))
    rw [sy_cons s, sx_cons s]
    rw [rowL, if_neg (by rw [sy_cons]; omega), ← Int.add_assoc, ← Int.add_assoc]
    exact ih
theorem flat_AX : ∀ (q : List V) (X : Int), (∀ v ∈ q, v.2 = 0) → AX X q = 0 ∧ sy q = 0
  | [], _, _ => by simp [AX, sy]
  | s :: t, X, h => by
    have hs := h s (by simp)
    have ih := flat_AX t (X + s.1) (fun v hv => h v (by simp [hv]))
    simp only [AX]
    rw [hs, ih.1, sy_cons, hs, ih.2]; simp
theorem flat_rim_pos : ∀ (q : List V), (∀ v ∈ q, v.2 = 0 ∧ 0 < v.1) → rim q = sx q
  | [], _ => by simp [rim, sx]
  | s :: t, h => by
    have hs := h s (by simp)
    have ih := flat_rim_pos t (fun v hv => h v (by simp [hv]))
    have er : rim (s :: t) = dv s + rim t := by rw [show s :: t = [s] ++ t from rfl, rim_append]; simp [rim]
    have ev : dv s = s.1 := by unfold dv; rw [hs.1]; simp; omega
    rw [er, ih, ev, sx_cons]
theorem flat_rim_neg : ∀ (q : List V), (∀ v ∈ q, v.2 = 0 ∧ v.1 < 0) → rim q = -sx q
  | [], _ => by simp [rim, sx]
  | s :: t, h => by
    have hs := h s (by simp)
    have ih := flat_rim_neg t (fun v hv => h v (by simp [hv]))
    have er : rim (s :: t) = dv s + rim t := by rw [show s :: t = [s] ++ t from rfl, rim_append]; simp [rim]
    have ev : dv s = -s.1 := by unfold dv; rw [hs.1]; simp; omega
    rw [er, ih, ev, sx_cons]; omega
/-- A path taken apart: along the bottom, up, along the top, down. -/
structure Parts (B U T D : List V) : Prop where
  b : ∀ v ∈ B, v.2 = 0 ∧ 0 < v.1
  u : ∀ v ∈ U, 0 < v.2 ∧ stepV v
  t : ∀ v ∈ T, v.2 = 0 ∧ v.1 < 0
  d : ∀ v ∈ D, v.2 < 0 ∧ stepV v
  x0 : sx B + sx U + sx T + sx D = 0
  y0 : sy U + sy D = 0
theorem rows_sum {B U T D : List V} (h : Parts B U T D) {n : Nat} (hn : sy U = (n + 1 : Nat)) :
    2 * S (fun y => rowR (sx B) 0 U y - rowL (sx B + sx U + sx T) (n + 1 : Nat) D y - 1) 1 n = AX 0 (B ++ U ++ T ++ D) - rim (B ++ U ++ T ++ D) + 2 := by
  have eB := flat_AX B 0 (fun v hv => (h.b v hv).1)
  have eT := flat_AX T (0 + sx (B ++ U)) (fun v hv => (h.t v hv).1)
  have rB := flat_rim_pos B h.b
  have rT := flat_rim_neg T h.t
  have sR := sumR U (sx B) 0 (n + 1) h.u hn
  have sL := sumL D (sx B + sx U + sx T) (n + 1 : Nat) (n + 1) h.d (by have := h.y0; omega)
  rw [Int.sub_self] at sL
  have hU : U ≠ [] := by rintro rfl; simp [sy] at hn; omega
  have hD : D ≠ [] := by rintro rfl; have := h.y0; simp [sy] at this hn; omega
  have r0 : rowR (sx B) 0 U 0 = sx B := by
    match U, hU, h.u with
    | s :: t, _, hu => exact rowR_first _ _ (hu s (by simp)).1
  have l0 : rowL (sx B + sx U + sx T) (n + 1 : Nat) D 0 = 0 := by
    have := rowL_last D (sx B + sx U + sx T) (n + 1 : Nat) hD (fun v hv => (h.d v hv).1)
    rw [h.x0, show ((n + 1 : Nat) : Int) + sy D = 0 from by have := h.y0; omega] at this
    exact this
  rw [S_first, r0] at sR
  rw [S_first, l0] at sL
  have split : ∀ (f g : Int → Int) (lo : Int) (m : Nat), S (fun y => f y - g y - 1) lo m = S f lo m - S g lo m - m := by
    intro f g lo m
    induction m with
    | zero => simp [S]
    | succ m ih => simp only [S]; rw [ih]; push_cast; omega
  rw [split, AX_append, AX_append, AX_append, eB.1, eT.1, rim_append, rim_append, rim_append, rB, rT]
  have e1 : (0 : Int) + sx (B ++ U ++ T) = sx B + sx U + sx T := by rw [sx_append, sx_append]; omega
  rw [e1, Int.zero_add (sx B)]
  have hx := h.x0
  have hy := h.y0
  simp only [Int.zero_add] at sR sL
  omega
theorem flat_pos : ∀ (q : List V) (X Y x y : Int), (∀ v ∈ q, v.2 = 0 ∧ 0 < v.1) → Y < y → allE X Y q x y
  | [], _, _, _, _, _, _ => trivial
  | s :: t, X, Y, x, y, h, hy => by
    have hs := h s (by simp)
    refine ⟨?_, ?_⟩
    · unfold cr; dsimp only; rw [hs.1, Int.zero_mul]
      have := Int.mul_pos hs.2 (show 0 < y - Y by omega)
      omega
    · rw [hs.1, Int.add_zero]; exact flat_pos t _ _ _ _ (fun v hv => h v (by simp [hv])) hy
theorem flat_neg : ∀ (q : List V) (X Y x y : Int), (∀ v ∈ q, v.2 = 0 ∧ v.1 < 0) → y < Y → allE X Y q x y
  | [], _, _, _, _, _, _ => trivial
  | s :: t, X, Y, x, y, h, hy => by
    have hs := h s (by simp)
    refine ⟨?_, ?_⟩
    · unfold cr; dsimp only; rw [hs.1, Int.zero_mul]
      have := Int.mul_pos (show 0 < -s.1 by omega) (show 0 < Y - y by omega)
      have e : s.1 * (y - Y) = -s.1 * (Y - y) := by grind
      rw [e]; omega
    · rw [hs.1, Int.add_zero]; exact flat_neg t _ _ _ _ (fun v hv => h v (by simp [hv])) hy
/-- A row strictly between the bottom and the top: the points inside are those between the left and the right. -/
theorem row_in {B U T D : List V} (h : Parts B U T D) (cU : turnsL U) (cD : turnsL D) {H : Int} (hH : sy U = H) {x y : Int} (h0 : 0 < y) (h1 : y < H) :
    allE 0 0 (B ++ U ++ T ++ D) x y ↔ rowL (sx B + sx U + sx T) H D y < x ∧ x < rowR (sx B) 0 U y := by
  have eB := flat_AX B 0 (fun v hv => (h.b v hv).1)
  have eT := flat_AX T 0 (fun v hv => (h.t v hv).1)
  have hy := h.y0
  rw [allE_append, allE_append, allE_append]
  have p1 : allE 0 0 B x y := flat_pos B 0 0 x y h.b h0
  have p2 : allE (0 + sx B) (0 + sy B) U x y ↔ x < rowR (sx B) 0 U y := by
    rw [eB.2, Int.add_zero, Int.zero_add]
    exact up_row U (sx B) 0 x y (fun v hv => (h.u v hv).1) cU (by omega) (by omega)
  have p3 : allE (0 + sx (B ++ U)) (0 + sy (B ++ U)) T x y := by
    refine flat_neg T _ _ x y h.t ?_
    rw [sy_append, eB.2]; omega
  have p4 : allE (0 + sx (B ++ U ++ T)) (0 + sy (B ++ U ++ T)) D x y ↔ rowL (sx B + sx U + sx T) H D y < x := by
    rw [sx_append, sx_append, sy_append, sy_append, eB.2, eT.2, hH, Int.zero_add, Int.zero_add, Int.zero_add, Int.add_zero]
    exact down_row D _ H x y (fun v hv => (h.d v hv).1) cD h1 (by omega)
  rw [p2, p4]
  exact ⟨fun g => ⟨g.2, g.1.1.2⟩, fun g => ⟨⟨⟨p1, g.2⟩, p3⟩, g.1⟩⟩
/-! ### the left is left of the right -/
theorem split_up : ∀ (q : List V) (X Y y : Int), (∀ v ∈ q, 0 < v.2) → Y ≤ y → y < Y + sy q →
    ∃ a s c, q = a ++ s :: c ∧ ∀ x, x < rowR X Y q y ↔ 0 < cr s (x - (X + sx a), y - (Y + sy a))
  | [], X, Y, y, _, h1, h2 => by simp [sy] at h2; omega
  | s :: t, X, Y, y, hp, h1, h2 => by
    rw [sy_cons] at h2
    by_cases c : y < Y + s.2
    · refine ⟨[], s, t, rfl, fun x => ?_⟩
      simp only [rowR]
      rw [if_pos c, ← up_one (hp s (by simp))]
      simp [sx, sy]
    · obtain ⟨a, s', c', e, h⟩ := split_up t (X + s.1) (Y + s.2) y (fun v hv => hp v (by simp [hv])) (by omega) (by omega)
      refine ⟨s :: a, s', c', by rw [e]; rfl, fun x => ?_⟩
      simp only [rowR]
      rw [if_neg c, h x, sx_cons, sy_cons, Int.add_assoc, Int.add_assoc]
theorem split_down : ∀ (q : List V) (X Y y : Int), (∀ v ∈ q, v.2 < 0) → y < Y → Y + sy q ≤ y →
    ∃ a s c, q = a ++ s :: c ∧ ∀ x, rowL X Y q y < x ↔ 0 < cr s (x - (X + sx a), y - (Y + sy a))
  | [], X, Y, y, _, h1, h2 => by simp [sy] at h2; omega
  | s :: t, X, Y, y, hp, h1, h2 => by
    rw [sy_cons] at h2
    by_cases c : Y + s.2 ≤ y
    · refine ⟨[], s, t, rfl, fun x => ?_⟩
      simp only [rowL]
      rw [if_pos c, ← down_one (hp s (by simp))]
      simp [sx, sy]
    · obtain ⟨a, s', c', e, h⟩ := split_down t (X + s.1) (Y + s.2) y (fun v hv => hp v (by simp [hv])) (by omega) (by omega)
      refine ⟨s :: a, s', c', by rw [e]; rfl, fun x => ?_⟩
      simp only [rowL]
      rw [if_neg c, h x, sx_cons, sy_cons, Int.add_assoc, Int.add_assoc]
theorem cr_sum_nonneg (s : V) : ∀ (q : List V), (∀ v ∈ q, 0 ≤ cr s v) → 0 ≤ cr s (sx q, sy q) ∧ (cr s (sx q, sy q) = 0 → ∀ v ∈ q, cr s v = 0)
  | [], _ => by simp [cr, sx, sy]
  | v :: t, h => by
    have h1 := h v (by simp)
    obtain ⟨h2, h3⟩ := cr_sum_nonneg s t (fun u hu => h u (by simp [hu]))
    have e : cr s (sx (v :: t), sy (v :: t)) = cr s v + cr s (sx t, sy t) := by rw [sx_cons, sy_cons]; unfold cr; grind
    rw [e]
    refine ⟨by omega, fun hz u hu => ?_⟩
    rcases List.mem_cons.1 hu with rfl | hu
    · omega
    · exact h3 (by omega) u hu
theorem cr_sum_nonpos (s : V) (q : List V) (h : ∀ v ∈ q, 0 ≤ cr v s) : 0 ≤ cr (sx q, sy q) s ∧ (cr (sx q, sy q) s = 0 → ∀ v ∈ q, cr s v = 0) := by
  have k := cr_sum_nonneg (neg s) q (fun v hv => by have := h v hv; simp only [cr, neg] at this ⊢; grind)
  have e : cr (neg s) (sx q, sy q) = cr (sx q, sy q) s := by simp only [cr, neg]; grind
  rw [e] at k
  refine ⟨k.1, fun hz v hv => ?_⟩
  have := k.2 hz v hv
  simp only [cr, neg] at this ⊢; grind
theorem par_zero {s v w : V} (hs : s.2 ≠ 0) (h1 : cr s v = 0) (h2 : cr s w = 0) : cr v w = 0 := by
  have e : s.2 * cr v w = w.2 * -cr s v + v.2 * cr s w := by unfold cr; grind
  rw [h1, h2, Int.neg_zero, Int.mul_zero, Int.mul_zero, Int.add_zero] at e
  rcases Int.mul_eq_zero.1 e with e | e
  · exact absurd e hs
  · exact e
theorem par_sum (s : V) : ∀ (q : List V), (∀ v ∈ q, cr s v = 0) → cr s (sx q, sy q) = 0
  | [], _ => by simp [cr, sx, sy]
  | v :: t, h => by
    have h1 := h v (by simp)
    have h2 := par_sum s t (fun u hu => h u (by simp [hu]))
    have e : cr s (sx (v :: t), sy (v :: t)) = cr s v + cr s (sx t, sy t) := by rw [sx_cons, sy_cons]; unfold cr; grind
    rw [e, h1, h2]; rfl
theorem par_A {s : V} (hs : s.2 ≠ 0) : ∀ (q : List V), (∀ v ∈ q, cr s v = 0) → A q = 0
  | [], _ => rfl
  | v :: t, h => by
    have h1 := h v (by simp)
    have ht : ∀ u ∈ t, cr s u = 0 := fun u hu => h u (by simp [hu])
    have h2 := par_zero hs h1 (par_sum s t ht)
    rw [A_cons, par_A hs t ht]
    unfold cr at h2
    dsimp only at h2
    omega
theorem affine_zero {φ0 φH φy y H σ : Int} (h0 : 0 ≤ φ0) (hH : 0 ≤ φH) (hy : φy ≤ 0) (y0 : 0 < y) (yH : y < H) (e1 : φy = φ0 + σ * y) (e2 : φH = φ0 + σ * H) : φ0 = 0 ∧ φH = 0 := by
  have e : H * φy = (H - y) * φ0 + y * φH := by rw [e1, e2]; grind
  have p1 := Int.mul_nonneg (show 0 ≤ H - y by omega) h0
  have p2 := Int.mul_nonneg (show 0 ≤ y by omega) hH
  have p3 := Int.mul_nonneg (show 0 ≤ H by omega) (show 0 ≤ -φy by omega)
  rw [Int.mul_neg] at p3
  have z1 : (H - y) * φ0 = 0 := by omega
  have z2 : y * φH = 0 := by omega
  rcases Int.mul_eq_zero.1 z1 with z | z
  · omega
  · rcases Int.mul_eq_zero.1 z2 with z' | z'
    · omega
    · exact ⟨z, z'⟩
theorem pw_split {a c : List V} {s : V} (h : (a ++ s :: c).Pairwise (fun u v => 0 ≤ cr u v)) : (∀ v ∈ a, 0 ≤ cr v s) ∧ ∀ v ∈ c, 0 ≤ cr s v := by
  rw [List.pairwise_append] at h
  exact ⟨fun v hv => h.2.2 v hv s (by simp), fun v hv => (List.pairwise_cons.1 h.2.1).1 v hv⟩
theorem flat_sum_pos : ∀ (q : List V), (∀ v ∈ q, v.2 = 0 ∧ 0 < v.1) → 0 ≤ sx q ∧ (sx q = 0 → q = [])
  | [], _ => by simp [sx]
  | v :: t, h => by
    have h1 := h v (by simp)
    have h2 := flat_sum_pos t (fun u hu => h u (by simp [hu]))
    rw [sx_cons]
    exact ⟨by omega, fun hz => by omega⟩
theorem flat_sum_neg : ∀ (q : List V), (∀ v ∈ q, v.2 = 0 ∧ v.1 < 0) → sx q ≤ 0 ∧ (sx q = 0 → q = [])
  | [], _ => by simp [sx]
  | v :: t, h => by
    have h1 := h v (by simp)
    have h2 := flat_sum_neg t (fun u hu => h u (by simp [hu]))
    rw [sx_cons]
    exact ⟨by omega, fun hz => by omega⟩
/-- Where the area is not 0: in each row between the bottom and the top, the left is left of the right. -/
theorem gap {B U T D : List V} (h : Parts B U T D) (cU : U.Pairwise (fun u v => 0 ≤ cr u v)) (cD : D.Pairwise (fun u v => 0 ≤ cr u v)) {H y : Int} (hH : sy U = H) (y0 : 0 < y) (yH : y < H)
    (hA : A (B ++ U ++ T ++ D) ≠ 0) : rowL (sx B + sx U + sx T) H D y < rowR (sx B) 0 U y := by
  refine Decidable.byContradiction fun hc => hA ?_
  have hy0 := h.y0
  have hx0 := h.x0
  obtain ⟨a, s, c, eU, hR⟩ := split_up U (sx B) 0 y (fun v hv => (h.u v hv).1) (by omega) (by omega)
  obtain ⟨a', f, c', eD, hL⟩ := split_down D (sx B + sx U + sx T) H y (fun v hv => (h.d v hv).1) yH (by omega)
  have hs : 0 < s.2 := (h.u s (by rw [eU]; simp)).1
  have hf : f.2 < 0 := (h.d f (by rw [eD]; simp)).1
  have n1 : ¬ 0 < cr s (rowL (sx B + sx U + sx T) H D y - (sx B + sx a), y - (0 + sy a)) := fun hh => hc ((hR _).2 hh)
  have n2 : ¬ 0 < cr f (rowL (sx B + sx U + sx T) H D y - (sx B + sx U + sx T + sx a'), y - (H + sy a')) := fun hh => by
    have := (hL _).2 hh; omega
  generalize rowL (sx B + sx U + sx T) H D y = x at n1 n2
  rw [eU] at cU
  rw [eD] at cD
  obtain ⟨u1, u2⟩ := pw_split cU
  obtain ⟨d1, d2⟩ := pw_split cD
  have ka := cr_sum_nonpos s a u1
  have kc := cr_sum_nonneg s c u2
  have ka' := cr_sum_nonpos f a' d1
  have kc' := cr_sum_nonneg f c' d2
  have bB := flat_sum_pos B h.b
  have bT := flat_sum_neg T h.t
  have sU : sx U = sx a + (s.1 + sx c) ∧ sy U = sy a + (s.2 + sy c) := by rw [eU, sx_append, sy_append, sx_cons, sy_cons]; exact ⟨rfl, rfl⟩
  have sD : sx D = sx a' + (f.1 + sx c') ∧ sy D = sy a' + (f.2 + sy c') := by rw [eD, sx_append, sy_append, sx_cons, sy_cons]; exact ⟨rfl, rfl⟩
  have q1 := Int.mul_nonneg (Int.le_of_lt hs) bB.1
  have q2 := Int.mul_nonneg (Int.le_of_lt hs) (show 0 ≤ -sx T by omega)
  have hm : 0 < -f.2 := by omega
  have z := affine_zero (y := y) (H := H) (σ := -f.2 * s.1 + s.2 * f.1)
    (φ0 := -f.2 * (s.2 * sx B + cr (sx a, sy a) s) + s.2 * cr f (sx c', sy c'))
    (φH := -f.2 * (cr s (sx c, sy c) + s.2 * -sx T) + s.2 * cr (sx a', sy a') f)
    (φy := -f.2 * cr s (x - (sx B + sx a), y - (0 + sy a)) + s.2 * cr f (x - (sx B + sx U + sx T + sx a'), y - (H + sy a')))
    (by have p1 := Int.mul_nonneg (Int.le_of_lt hm) (show 0 ≤ s.2 * sx B + cr (sx a, sy a) s by omega)
        have p2 := Int.mul_nonneg (Int.le_of_lt hs) kc'.1
        omega)
    (by have p1 := Int.mul_nonneg (Int.le_of_lt hm) (show 0 ≤ cr s (sx c, sy c) + s.2 * -sx T by omega)
        have p2 := Int.mul_nonneg (Int.le_of_lt hs) ka'.1
        omega)
    (by have p1 := Int.mul_nonneg (Int.le_of_lt hm) (show 0 ≤ -cr s (x - (sx B + sx a), y - (0 + sy a)) by omega)
        have p2 := Int.mul_nonneg (Int.le_of_lt hs) (show 0 ≤ -cr f (x - (sx B + sx U + sx T + sx a'), y - (H + sy a')) by omega)
        rw [Int.mul_neg] at p1 p2
        omega) y0 yH
    (by have e1 : sx U = -(sx B + sx T + sx D) := by omega
        have e2 : H = -sy D := by omega
        rw [e1, e2, sD.1, sD.2]
        unfold cr; dsimp only; grind)
    (by have e1 : sx a' + (f.1 + sx c') = -(sx B + (sx a + (s.1 + sx c)) + sx T) := by rw [← sD.1, ← sU.1]; omega
        have e2 : sy a' + (f.2 + sy c') = -H := by rw [← sD.2]; omega
        have e3 : H = sy a + (s.2 + sy c) := by rw [← sU.2, hH]
        have f1 : sx c' = -(sx B + (sx a + (s.1 + sx c)) + sx T) - sx a' - f.1 := by omega
        have f2 : sy c' = -H - sy a' - f.2 := by omega
        rw [f1, f2, e3]
        unfold cr; dsimp only; grind)
  obtain ⟨z1, z2⟩ := z
  have w1 : s.2 * sx B + cr (sx a, sy a) s = 0 ∧ cr f (sx c', sy c') = 0 := by
    have p1 := Int.mul_nonneg (Int.le_of_lt hm) (show 0 ≤ s.2 * sx B + cr (sx a, sy a) s by omega)
    have p2 := Int.mul_nonneg (Int.le_of_lt hs) kc'.1
    have g1 : -f.2 * (s.2 * sx B + cr (sx a, sy a) s) = 0 := by omega
    have g2 : s.2 * cr f (sx c', sy c') = 0 := by omega
    rcases Int.mul_eq_zero.1 g1 with g1 | g1
    · omega
    · rcases Int.mul_eq_zero.1 g2 with g2 | g2
      · omega
      · exact ⟨g1, g2⟩
  have w2 : cr s (sx c, sy c) + s.2 * -sx T = 0 ∧ cr (sx a', sy a') f = 0 := by
    have p1 := Int.mul_nonneg (Int.le_of_lt hm) (show 0 ≤ cr s (sx c, sy c) + s.2 * -sx T by omega)
    have p2 := Int.mul_nonneg (Int.le_of_lt hs) ka'.1
    have g1 : -f.2 * (cr s (sx c, sy c) + s.2 * -sx T) = 0 := by omega
    have g2 : s.2 * cr (sx a', sy a') f = 0 := by omega
    rcases Int.mul_eq_zero.1 g1 with g1 | g1
    · omega
    · rcases Int.mul_eq_zero.1 g2 with g2 | g2
      · omega
      · exact ⟨g1, g2⟩
  have B0 : B = [] := by
    have g : s.2 * sx B = 0 := by omega
    rcases Int.mul_eq_zero.1 g with g | g
    · omega
    · exact bB.2 g
  have T0 : T = [] := by
    have g : s.2 * -sx T = 0 := by omega
    rcases Int.mul_eq_zero.1 g with g | g
    · omega
    · exact bT.2 (by omega)
  have pU : ∀ v ∈ U, cr s v = 0 := by
    intro v hv
    rw [eU] at hv
    rcases List.mem_append.1 hv with hv | hv
    · exact ka.2 (by omega) v hv
    · rcases List.mem_cons.1 hv with rfl | hv
      · unfold cr; grind
      · exact kc.2 (by omega) v hv
  have pD : ∀ v ∈ D, cr f v = 0 := by
    intro v hv
    rw [eD] at hv
    rcases List.mem_append.1 hv with hv | hv
    · exact ka'.2 w2.2 v hv
    · rcases List.mem_cons.1 hv with rfl | hv
      · unfold cr; grind
      · exact kc'.2 w1.2 v hv
  have sB0 : sx B = 0 := by rw [B0]; rfl
  have sT0 : sx T = 0 := by rw [T0]; rfl
  have gU := par_sum s U pU
  have gD := par_sum f D pD
  have sf : cr s f = 0 := by
    have e : sy U * cr s f = s.2 * -cr f (sx U, sy U) + f.2 * cr s (sx U, sy U) := by unfold cr; dsimp only; grind
    have e2 : cr f (sx U, sy U) = -cr f (sx D, sy D) := by
      have e1 : sx D = -sx U := by omega
      have e3 : sy D = -sy U := by omega
      rw [e1, e3]; unfold cr; dsimp only; grind
    rw [gU, e2, gD, Int.neg_zero, Int.neg_zero, Int.mul_zero, Int.mul_zero, Int.add_zero] at e
    rcases Int.mul_eq_zero.1 e with e | e
    · omega
    · exact e
  have pD2 : ∀ v ∈ D, cr s v = 0 := fun v hv => by
    have h1 := pD v hv
    have h2 : cr f s = 0 := by unfold cr at sf ⊢; grind
    exact par_zero (s := f) (v := s) (w := v) (by omega) h2 h1
  rw [B0, T0]
  simp only [List.nil_append, List.append_nil]
  exact par_A (s := s) (by omega) _ (fun v hv => by
    rcases List.mem_append.1 hv with hv | hv
    · exact pU v hv
    · exact pD2 v hv)
/-! ### counting -/
theorem S_plus (f g : Int → Int) (lo : Int) (n : Nat) : S (fun x => f x + g x) lo n = S f lo n + S g lo n := by
  induction n with
  | zero => rfl
  | succ n ih => simp only [S]; rw [ih]; omega
theorem S_swap (g : Int → Int → Int) (a b : Int) (m n : Nat) : S (fun x => S (fun y => g x y) b n) a m = S (fun y => S (fun x => g x y) a m) b n := by
  induction n with
  | zero =>
    show S (fun _ => (0 : Int)) a m = 0
    exact S_zero (fun _ _ => rfl)
  | succ n ih =>
    have : (fun x => S (fun y => g x y) b (n + 1)) = fun x => S (fun y => g x y) b n + g x (b + n) := rfl
    rw [this, S_plus, ih]
    rfl
/-- A sum over more, where what is added is 0. -/
theorem S_wide {g : Int → Int} {lo lo' : Int} {n n' : Nat} (h : ∀ x, x < lo ∨ lo + n ≤ x → g x = 0) (h1 : lo' ≤ lo) (h2 : lo + n ≤ lo' + n') : S g lo' n' = S g lo n := by
  obtain ⟨a, ha⟩ := Int.eq_ofNat_of_zero_le (show 0 ≤ lo - lo' by omega)
  obtain ⟨c, hc⟩ := Int.eq_ofNat_of_zero_le (show 0 ≤ lo' + n' - (lo + n) by omega)
  have e : n' = a + (n + c) := by omega
  subst e
  rw [S_add, S_add, S_zero (n := a) (fun i hi => h _ (by omega)), show lo' + (a : Int) = lo from by omega, S_zero (lo := lo + n) (fun i _ => h _ (by omega))]
  omega
theorem rowR_b : ∀ (q : List V) (X Y y : Int), (∀ v ∈ q, 0 < v.2 ∧ stepV v) → Y ≤ y → y < Y + sy q → X - 9 * q.length - 81 ≤ rowR X Y q y ∧ rowR X Y q y ≤ X + 9 * q.length + 81
  | [], X, Y, y, _, h1, h2 => by simp [sy] at h2; omega
  | s :: t, X, Y, y, hp, h1, h2 => by
    have hs := hp s (by simp)
    have hst := hs.2
    simp only [stepV] at hst
    rw [sy_cons] at h2
    simp only [rowR, List.length_cons]
    by_cases c : y < Y + s.2
    · rw [if_pos c]
      have m := mul9 (x := s.1) (v := y - Y) (M := 9) ⟨hst.1, hst.2.1⟩ ⟨by omega, by omega⟩
      have k1 := lt_cdiv (a := s.1 * (y - Y)) (x := -82) hs.1
      have k2 := lt_cdiv (a := s.1 * (y - Y)) (x := 81) hs.1
      have l1 : -82 < cdiv (s.1 * (y - Y)) s.2 := k1.2 (by omega)
      have l2 : ¬ 81 < cdiv (s.1 * (y - Y)) s.2 := fun h => by have := k2.1 h; omega
      omega
    · rw [if_neg c]
      have ih := rowR_b t (X + s.1) (Y + s.2) y (fun v hv => hp v (by simp [hv])) (by omega) (by omega)
      push_cast
      omega
theorem rowL_b : ∀ (q : List V) (X Y y : Int), (∀ v ∈ q, v.2 < 0 ∧ stepV v) → y < Y → Y + sy q ≤ y → X - 9 * q.length - 82 ≤ rowL X Y q y ∧ rowL X Y q y ≤ X + 9 * q.length + 82
  | [], X, Y, y, _, h1, h2 => by simp [sy] at h2; omega
  | s :: t, X, Y, y, hp, h1, h2 => by
    have hs := hp s (by simp)
    have hst := hs.2
    simp only [stepV] at hst
    rw [sy_cons] at h2
    simp only [rowL, List.length_cons]
    by_cases c : Y + s.2 ≤ y
    · rw [if_pos c]
      have m := mul9 (x := s.1) (v := Y - y) (M := 9) ⟨hst.1, hst.2.1⟩ ⟨by omega, by omega⟩
      have k1 := div_lt (a := s.1 * (Y - y)) (b := -s.2) (x := -82) (by omega)
      have k2 := div_lt (a := s.1 * (Y - y)) (b := -s.2) (x := 82) (by omega)
      have l1 : ¬ (s.1 * (Y - y)) / (-s.2) < -82 := fun h => by have := k1.1 h; omega
      have l2 : (s.1 * (Y - y)) / (-s.2) < 82 := k2.2 (by omega)
      omega
    · rw [if_neg c]
      have ih := rowL_b t (X + s.1) (Y + s.2) y (fun v hv => hp v (by simp [hv])) (by omega) (by omega)
      push_cast
      omega
/-- Pick's theorem, for a path taken apart, where nothing is inside beside the rows between the bottom and the top. -/
theorem pick_parts {B U T D : List V} (h : Parts B U T D) (hl : (B ++ U ++ T ++ D).length ≤ 8) (sB : ∀ v ∈ B, stepV v) (sT : ∀ v ∈ T, stepV v)
    (tU : turnsL U) (tD : turnsL D) (cU : U.Pairwise (fun u v => 0 ≤ cr u v)) (cD : D.Pairwise (fun u v => 0 ≤ cr u v)) {n : Nat} (hn : sy U = (n + 1 : Nat)) (hA : A (B ++ U ++ T ++ D) ≠ 0)
    (hout : ∀ x y : Int, y ≤ 0 ∨ (n + 1 : Nat) ≤ y → inB (B ++ U ++ T ++ D) x y = false) (hn2 : n ≤ 100) {lo : Int} {m : Nat} (hlo : lo ≤ -1000) (hm : 1000 ≤ lo + m) :
    2 * count (B ++ U ++ T ++ D) lo m = A (B ++ U ++ T ++ D) - rim (B ++ U ++ T ++ D) + 2 := by
  have eB := flat_AX B 0 (fun v hv => (h.b v hv).1)
  have eT := flat_AX T 0 (fun v hv => (h.t v hv).1)
  have hx : sx (B ++ U ++ T ++ D) = 0 := by rw [sx_append, sx_append, sx_append]; exact h.x0
  have hy : sy (B ++ U ++ T ++ D) = 0 := by rw [sy_append, sy_append, sy_append, eB.2, eT.2]; have := h.y0; omega
  rw [A_AX hx hy, ← rows_sum h hn]
  refine congrArg (fun z : Int => 2 * z) ?_
  unfold count row
  rw [S_swap (fun x y => pt (B ++ U ++ T ++ D) x y)]
  simp only [List.length_append] at hl
  have bB := sx_bound sB
  have bU := sx_bound (fun v hv => (h.u v hv).2)
  have bT := sx_bound sT
  have hy0 := h.y0
  have rowIn : ∀ y : Int, 0 < y → y < (n + 1 : Nat) → S (fun x => pt (B ++ U ++ T ++ D) x y) lo m = rowR (sx B) 0 U y - rowL (sx B + sx U + sx T) (n + 1 : Nat) D y - 1 := by
    intro y y0 y1
    have g := gap h cU cD hn y0 y1 hA
    have k1 := rowR_b U (sx B) 0 y h.u (by omega) (by omega)
    have k2 := rowL_b D (sx B + sx U + sx T) (n + 1 : Nat) y h.d y1 (by omega)
    refine S_row (l := rowL (sx B + sx U + sx T) (n + 1 : Nat) D y) (r := rowR (sx B) 0 U y) (fun x => ?_) (by omega) g (by omega)
    unfold pt
    have := (inB_allE (B ++ U ++ T ++ D) x y).trans (row_in h tU tD hn (x := x) y0 y1)
    by_cases c : inB (B ++ U ++ T ++ D) x y = true
    · rw [if_pos c, if_pos (this.1 c)]
    · rw [if_neg c, if_neg (fun hh => c (this.2 hh))]
  have rowOut : ∀ y : Int, y ≤ 0 ∨ (n + 1 : Nat) ≤ y → S (fun x => pt (B ++ U ++ T ++ D) x y) lo m = 0 := by
    intro y hyo
    refine S_zero (fun i _ => ?_)
    unfold pt
    rw [hout _ y hyo]; rfl
  rw [S_wide (lo := 1) (n := n) (fun y hyo => rowOut y (by omega)) (by omega) (by omega)]
  exact S_congr (fun i hi => rowIn _ (by omega) (by omega))
/-! ### outside of the rows -/
theorem pre_up : ∀ (q : List V) (i : Nat), (∀ v ∈ q, 0 ≤ v.2) → 0 ≤ sy (q.take i) ∧ sy (q.take i) ≤ sy q
  | [], i, _ => by simp [sy]
  | s :: t, 0, h => by
    have h1 := h s (by simp)
    have := pre_up t t.length (fun v hv => h v (by simp [hv]))
    rw [List.take_length] at this
    rw [List.take_zero, sy_cons]
    simp only [show sy ([] : List V) = 0 from rfl]
    omega
  | s :: t, i + 1, h => by
    have h1 := h s (by simp)
    have := pre_up t i (fun v hv => h v (by simp [hv]))
    rw [List.take_succ_cons, sy_cons, sy_cons]; omega
theorem pre_down : ∀ (q : List V) (i : Nat), (∀ v ∈ q, v.2 ≤ 0) → sy q ≤ sy (q.take i) ∧ sy (q.take i) ≤ 0
  | [], i, _ => by simp [sy]
  | s :: t, 0, h => by
    have h1 := h s (by simp)
    have := pre_down t t.length (fun v hv => h v (by simp [hv]))
    rw [List.take_length] at this
    rw [List.take_zero, sy_cons]
    simp only [show sy ([] : List V) = 0 from rfl]
    omega
  | s :: t, i + 1, h => by
    have h1 := h s (by simp)
    have := pre_down t i (fun v hv => h v (by simp [hv]))
    rw [List.take_succ_cons, sy_cons, sy_cons]; omega
theorem pre_all {a b : List V} (ha : ∀ v ∈ a, 0 ≤ v.2) (hb : ∀ v ∈ b, v.2 ≤ 0) (h0 : sy a + sy b = 0) (i : Nat) : 0 ≤ sy ((a ++ b).take i) ∧ sy ((a ++ b).take i) ≤ sy a := by
  rw [List.take_append, sy_append]
  have p1 := pre_up a i ha
  have p2 := pre_down b (i - a.length) hb
  by_cases c : i ≤ a.length
  · rw [show i - a.length = 0 from by omega, List.take_zero]
    simp only [show sy ([] : List V) = 0 from rfl]
    omega
  · rw [List.take_of_length_le (by omega)] at p1 ⊢
    omega
theorem allE_start {q : List V} (h : q ≠ []) {X Y x y : Int} (g : allE X Y q x y) : ∃ s ∈ q, 0 < cr s (x - X, y - Y) := by
  match q, h, g with
  | s :: t, _, g => exact ⟨s, by simp, g.1⟩
theorem allE_end : ∀ (q : List V) (X Y x y : Int), q ≠ [] → allE X Y q x y → ∃ s ∈ q, 0 < cr s (x - (X + sx q), y - (Y + sy q))
  | [], _, _, _, _, h, _ => absurd rfl h
  | [s], X, Y, x, y, _, g => ⟨s, by simp, by
    have := g.1
    rw [← sub_step] at this
    simpa [sx, sy] using this⟩
  | s :: a :: r, X, Y, x, y, _, g => by
    obtain ⟨f, hf, h⟩ := allE_end (a :: r) (X + s.1) (Y + s.2) x y (by simp) g.2
    refine ⟨f, by simp only [List.mem_cons] at hf ⊢; exact Or.inr hf, ?_⟩
    rw [sx_cons s, sy_cons s, ← Int.add_assoc, ← Int.add_assoc]
    exact h
theorem out_rows {B U T D : List V} (h : Parts B U T D) {n : Nat} (hn : sy U = (n + 1 : Nat)) (hlen : 2 ≤ (B ++ U ++ T ++ D).length) (x y : Int) (ho : y ≤ 0 ∨ (n + 1 : Nat) ≤ y) : inB (B ++ U ++ T ++ D) x y = false := by
  have eB := flat_AX B 0 (fun v hv => (h.b v hv).1)
  have eT := flat_AX T 0 (fun v hv => (h.t v hv).1)
  have hx : sx (B ++ U ++ T ++ D) = 0 := by rw [sx_append, sx_append, sx_append]; exact h.x0
  have hy : sy (B ++ U ++ T ++ D) = 0 := by rw [sy_append, sy_append, sy_append, eB.2, eT.2]; have := h.y0; omega
  have hy0 := h.y0
  have hx0 := h.x0
  have bnd : ∀ i, 0 ≤ sy ((B ++ U ++ T ++ D).take i) ∧ sy ((B ++ U ++ T ++ D).take i) ≤ (n + 1 : Nat) := by
    intro i
    have := pre_all (a := B ++ U) (b := T ++ D) (fun v hv => by
      rcases List.mem_append.1 hv with hv | hv
      · have := h.b v hv; omega
      · have := h.u v hv; omega) (fun v hv => by
      rcases List.mem_append.1 hv with hv | hv
      · have := h.t v hv; omega
      · have := h.d v hv; omega) (by rw [sy_append, sy_append, eB.2, eT.2]; omega) i
    rw [← List.append_assoc, sy_append, eB.2] at this
    omega
  have hU : U ≠ [] := by rintro rfl; simp [sy] at hn; omega
  have hD : D ≠ [] := by rintro rfl; simp [sy] at hy0 hn; omega
  by_cases c1 : y < 0
  · refine half_plane hlen hx hy 0 (-1) (fun i _ => ?_)
    have := bnd i
    unfold lin Inn.a; dsimp only; omega
  · by_cases c2 : ((n + 1 : Nat) : Int) < y
    · refine half_plane hlen hx hy 0 1 (fun i _ => ?_)
      have := bnd i
      unfold lin Inn.a; dsimp only; omega
    · refine Bool.eq_false_iff.2 fun hin => ?_
      rw [inB_allE, allE_append, allE_append, allE_append] at hin
      obtain ⟨⟨⟨g1, g2⟩, g3⟩, g4⟩ := hin
      rw [Int.zero_add, Int.zero_add, eB.2] at g2
      have eX : (0 : Int) + sx (B ++ U ++ T) + sx D = 0 := by rw [sx_append, sx_append]; omega
      have eY : (0 : Int) + sy (B ++ U ++ T) + sy D = 0 := by rw [sy_append, sy_append, eB.2, eT.2]; omega
      rcases ho with ho | ho
      · have y0 : y = 0 := by omega
        subst y0
        match B, h.b, g1, g2 with
        | s :: t, hb, g1, _ =>
          have hs := hb s (by simp)
          have := g1.1
          unfold cr at this; dsimp only at this
          rw [hs.1] at this; simp at this
        | [], _, _, g2 =>
          obtain ⟨s, hs, k1⟩ := allE_start hU g2
          obtain ⟨f, hf, k2⟩ := allE_end D _ _ x 0 hD g4
          rw [eX, eY] at k2
          have s1 := (h.u s hs).1
          have s2 := (h.d f hf).1
          have e0 : sx ([] : List V) = 0 := rfl
          rw [e0] at k1
          unfold cr at k1 k2; dsimp only at k1 k2
          simp only [Int.sub_zero, Int.mul_zero, Int.zero_sub] at k1 k2
          rcases Int.lt_trichotomy x 0 with z | z | z
          · have := Int.mul_pos (show 0 < -f.2 by omega) (show 0 < -x by omega)
            rw [Int.neg_mul_neg] at this; omega
          · rw [z] at k1; simp at k1
          · have := Int.mul_pos s1 z; omega
      · have yH : y = (n + 1 : Nat) := by omega
        match T, h.t, g3, eT with
        | s :: t, ht, g3, _ =>
          have hs := ht s (by simp)
          have := g3.1
          rw [sy_append, eB.2, hn, yH] at this
          unfold cr at this; dsimp only at this
          rw [hs.1] at this; simp at this
        | [], _, _, _ =>
          obtain ⟨s, hs, k1⟩ := allE_end U _ _ x y hU g2
          rw [List.append_nil] at g4
          obtain ⟨f, hf, k2⟩ := allE_start hD g4
          have s1 := (h.u s hs).1
          have s2 := (h.d f hf).1
          rw [Int.zero_add, Int.zero_add, sx_append, sy_append, eB.2, hn, Int.zero_add, yH] at k2
          rw [Int.zero_add, hn, yH] at k1
          generalize x - (sx B + sx U) = z at k1 k2
          unfold cr at k1 k2; dsimp only at k1 k2
          simp only [Int.sub_self, Int.mul_zero, Int.zero_sub] at k1 k2
          rcases Int.lt_trichotomy z 0 with z0 | z0 | z0
          · have := Int.mul_pos (show 0 < -f.2 by omega) (show 0 < -z by omega)
            rw [Int.neg_mul_neg] at this; omega
          · rw [z0] at k1; simp at k1
          · have := Int.mul_pos s1 z0; omega
end Go.Proofs.Ytpopdfffcokilaa.Pick
