import Derived.Test.YtgmmlnjklhjefaaBase
import Derived.Test.YtgmmlnjklhjefaaSol
import Derived.Test.YtgmmlnjklhjefaaFace
import Derived.Test.YtgmmlnjklhjefaaStand
import Derived.Test.YtgmmlnjklhjefaaFirst
/- A solid called otherwise: its number, its faces, and whether it stands are the same. No program in sight. -/
set_option linter.unusedVariables false
set_option linter.unusedSimpArgs false
namespace Go.Proofs.Ytgmmlnjklhjefaa.Inv
open Go.RowKit Go.Proofs.Ytgmmlnjklhjefaa.Sol Go.Proofs.Ytgmmlnjklhjefaa.Face Go.Proofs.Ytgmmlnjklhjefaa.Base Go.Proofs.Ytgmmlnjklhjefaa.Stand Go.Proofs.Ytgmmlnjklhjefaa.First
theorem tri_12 (a b c : Int) : tri a b c = tri b a c := by rw [Bool.eq_iff_iff, tri_iff, tri_iff]; omega
theorem tri_23 (a b c : Int) : tri a b c = tri a c b := by rw [Bool.eq_iff_iff, tri_iff, tri_iff]; omega
theorem num_named {l : List Int} (h : l.length = 6) {x : List Int} (hx : x ∈ perms) : num (named l x) = num l := by
  match l, h with
  | [a, b, c, d, e, f], _ =>
    simp only [perms, List.mem_cons, List.not_mem_nil, or_false] at hx
    rcases hx with rfl | rfl | rfl | rfl | rfl | rfl | rfl | rfl | rfl | rfl | rfl | rfl | rfl | rfl | rfl | rfl | rfl | rfl | rfl | rfl | rfl | rfl | rfl | rfl
    · exact (by unfold number; grind : number a b c d e f = number a b c d e f)
    · exact (by unfold number; grind : number a c b e d f = number a b c d e f)
    · exact (by unfold number; grind : number b a c d f e = number a b c d e f)
    · exact (by unfold number; grind : number b c a f d e = number a b c d e f)
    · exact (by unfold number; grind : number c a b e f d = number a b c d e f)
    · exact (by unfold number; grind : number c b a f e d = number a b c d e f)
    · exact (by unfold number; grind : number a d e b c f = number a b c d e f)
    · exact (by unfold number; grind : number a e d c b f = number a b c d e f)
    · exact (by unfold number; grind : number d a e b f c = number a b c d e f)
    · exact (by unfold number; grind : number d e a f b c = number a b c d e f)
    · exact (by unfold number; grind : number e a d c f b = number a b c d e f)
    · exact (by unfold number; grind : number e d a f c b = number a b c d e f)
    · exact (by unfold number; grind : number b d f a c e = number a b c d e f)
    · exact (by unfold number; grind : number b f d c a e = number a b c d e f)
    · exact (by unfold number; grind : number d b f a e c = number a b c d e f)
    · exact (by unfold number; grind : number d f b e a c = number a b c d e f)
    · exact (by unfold number; grind : number f b d c e a = number a b c d e f)
    · exact (by unfold number; grind : number f d b e c a = number a b c d e f)
    · exact (by unfold number; grind : number c e f a b d = number a b c d e f)
    · exact (by unfold number; grind : number c f e b a d = number a b c d e f)
    · exact (by unfold number; grind : number e c f a d b = number a b c d e f)
    · exact (by unfold number; grind : number e f c d a b = number a b c d e f)
    · exact (by unfold number; grind : number f c e b d a = number a b c d e f)
    · exact (by unfold number; grind : number f e c d b a = number a b c d e f)
theorem faces_named {l : List Int} (h : l.length = 6) {x : List Int} (hx : x ∈ perms) : facesN (named l x) = facesN l := by
  match l, h with
  | [a, b, c, d, e, f], _ =>
    simp only [perms, List.mem_cons, List.not_mem_nil, or_false] at hx
    rcases hx with rfl | rfl | rfl | rfl | rfl | rfl | rfl | rfl | rfl | rfl | rfl | rfl | rfl | rfl | rfl | rfl | rfl | rfl | rfl | rfl | rfl | rfl | rfl | rfl
    · exact (by unfold faces6; omega : faces6 a b c d e f = faces6 a b c d e f)
    · exact (by unfold faces6; rw [tri_12 e d f, tri_12 c b f]; omega : faces6 a c b e d f = faces6 a b c d e f)
    · exact (by unfold faces6; rw [tri_23 d f e, tri_12 b a d]; omega : faces6 b a c d f e = faces6 a b c d e f)
    · exact (by unfold faces6; rw [tri_12 f d e, tri_23 d f e, tri_12 c a e, tri_12 b a d]; omega : faces6 b c a f d e = faces6 a b c d e f)
    · exact (by unfold faces6; rw [tri_23 e f d, tri_12 e d f, tri_12 c b f, tri_12 c a e]; omega : faces6 c a b e f d = faces6 a b c d e f)
    · exact (by unfold faces6; rw [tri_12 f e d, tri_23 e f d, tri_12 e d f, tri_12 b a d, tri_12 c a e, tri_12 c b f]; omega : faces6 c b a f e d = faces6 a b c d e f)
    · exact (by unfold faces6; rw [tri_23 a e c, tri_23 a d b]; omega : faces6 a d e b c f = faces6 a b c d e f)
    · exact (by unfold faces6; rw [tri_12 c b f, tri_12 e d f, tri_23 a d b, tri_23 a e c]; omega : faces6 a e d c b f = faces6 a b c d e f)
    · exact (by unfold faces6; rw [tri_23 b f c, tri_23 a e c, tri_12 d a b, tri_23 a d b]; omega : faces6 d a e b f c = faces6 a b c d e f)
    · exact (by unfold faces6; rw [tri_12 f b c, tri_23 b f c, tri_12 e a c, tri_23 a e c, tri_12 d a b, tri_23 a d b]; omega : faces6 d e a f b c = faces6 a b c d e f)
    · exact (by unfold faces6; rw [tri_23 c f b, tri_12 c b f, tri_23 a d b, tri_12 e d f, tri_12 e a c, tri_23 a e c]; omega : faces6 e a d c f b = faces6 a b c d e f)
    · exact (by unfold faces6; rw [tri_12 f c b, tri_23 c f b, tri_12 c b f, tri_12 d a b, tri_23 a d b, tri_12 e a c, tri_23 a e c, tri_12 e d f]; omega : faces6 e d a f c b = faces6 a b c d e f)
    · exact (by unfold faces6; rw [tri_23 d f e, tri_23 b f c, tri_23 b d a, tri_12 b a d]; omega : faces6 b d f a c e = faces6 a b c d e f)
    · exact (by unfold faces6; rw [tri_12 c a e, tri_12 f d e, tri_23 d f e, tri_23 b d a, tri_12 b a d, tri_23 b f c]; omega : faces6 b f d c a e = faces6 a b c d e f)
    · exact (by unfold faces6; rw [tri_23 a e c, tri_23 b f c, tri_23 d f e, tri_12 d b a, tri_23 b d a, tri_12 b a d]; omega : faces6 d b f a e c = faces6 a b c d e f)
    · exact (by unfold faces6; rw [tri_12 e a c, tri_23 a e c, tri_12 f b c, tri_23 b f c, tri_12 d b a, tri_23 b d a, tri_12 b a d, tri_23 d f e]; omega : faces6 d f b e a c = faces6 a b c d e f)
    · exact (by unfold faces6; rw [tri_23 c e a, tri_12 c a e, tri_23 b d a, tri_12 b a d, tri_12 f d e, tri_23 d f e, tri_12 f b c, tri_23 b f c]; omega : faces6 f b d c e a = faces6 a b c d e f)
    · exact (by unfold faces6; rw [tri_12 e c a, tri_23 c e a, tri_12 c a e, tri_12 d b a, tri_23 b d a, tri_12 b a d, tri_12 f b c, tri_23 b f c, tri_12 f d e, tri_23 d f e]; omega : faces6 f d b e c a = faces6 a b c d e f)
    · exact (by unfold faces6; rw [tri_23 e f d, tri_12 e d f, tri_23 c f b, tri_12 c b f, tri_23 c e a, tri_12 c a e]; omega : faces6 c e f a b d = faces6 a b c d e f)
    · exact (by unfold faces6; rw [tri_12 b a d, tri_12 f e d, tri_23 e f d, tri_12 e d f, tri_23 c e a, tri_12 c a e, tri_23 c f b, tri_12 c b f]; omega : faces6 c f e b a d = faces6 a b c d e f)
    · exact (by unfold faces6; rw [tri_23 a d b, tri_23 c f b, tri_12 c b f, tri_23 e f d, tri_12 e d f, tri_12 e c a, tri_23 c e a, tri_12 c a e]; omega : faces6 e c f a d b = faces6 a b c d e f)
    · exact (by unfold faces6; rw [tri_12 d a b, tri_23 a d b, tri_12 f c b, tri_23 c f b, tri_12 c b f, tri_12 e c a, tri_23 c e a, tri_12 c a e, tri_23 e f d, tri_12 e d f]; omega : faces6 e f c d a b = faces6 a b c d e f)
    · exact (by unfold faces6; rw [tri_23 b d a, tri_12 b a d, tri_23 c e a, tri_12 c a e, tri_12 f e d, tri_23 e f d, tri_12 e d f, tri_12 f c b, tri_23 c f b, tri_12 c b f]; omega : faces6 f c e b d a = faces6 a b c d e f)
    · exact (by unfold faces6; rw [tri_12 d b a, tri_23 b d a, tri_12 b a d, tri_12 e c a, tri_23 c e a, tri_12 c a e, tri_12 f c b, tri_23 c f b, tri_12 c b f, tri_12 f e d, tri_23 e f d, tri_12 e d f]; omega : faces6 f e c d b a = faces6 a b c d e f)
theorem named_sol {l : List Int} (h : solB l = true) {x : List Int} (hx : x ∈ perms) : solB (named l x) = true := by
  have h6 : l.length = 6 := by obtain ⟨a, b, c, d, e, f, rfl, _⟩ := sol_six h; rfl
  unfold solB at h ⊢
  rw [Bool.and_eq_true] at h ⊢
  exact ⟨List.all_eq_true.2 fun z hz => List.all_eq_true.1 h.1 z (named_mem h6 hx z hz), rfl⟩
theorem stands_named {l : List Int} (h : l.length = 6) {x : List Int} (hx : x ∈ perms) : standsB (named l x) = standsB l := by
  unfold standsB; rw [num_named h hx, faces_named h hx]
end Go.Proofs.Ytgmmlnjklhjefaa.Inv
