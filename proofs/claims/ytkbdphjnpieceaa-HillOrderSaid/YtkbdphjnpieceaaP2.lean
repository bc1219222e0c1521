/- Which walls block does not depend on the direction; one of two stations needs one mirror only. -/
import Derived.Test.YtkbdphjnpieceaaL8
namespace Go.Proofs.Ytkbdphjnpieceaa.G
open Go.RowKit Go.Proofs.YtkbdphjnpieceaaW.PrintWords Go.Proofs.YtkbdphjnpieceaaW.PrintLast Go.Proofs.YtkbdphjnpieceaaW.PrintMore
set_option linter.unusedVariables false
set_option linter.unusedSimpArgs false

theorem side_neg (a0 a1 b0 b1 x0 x1 : Int) : sideI b0 b1 a0 a1 x0 x1 = -sideI a0 a1 b0 b1 x0 x1 := by
  unfold sideI
  simp only [Int.sub_mul, Int.mul_sub]
  have h1 := Int.mul_comm a0 b1
  have h2 := Int.mul_comm b0 b1
  have h3 := Int.mul_comm a1 b0
  have h4 := Int.mul_comm a0 a1
  omega
theorem uv_neg (u v : Int) : (decide (0 < -u) && decide (0 < -v) || decide (-u < 0) && decide (-v < 0)) = (decide (0 < u) && decide (0 < v) || decide (u < 0) && decide (v < 0)) := by
  have h1 : (0 < -u) = (u < 0) := by apply propext; omega
  have h2 : (0 < -v) = (v < 0) := by apply propext; omega
  have h3 : (-u < 0) = (0 < u) := by apply propext; omega
  have h4 : (-v < 0) = (0 < v) := by apply propext; omega
  simp only [h1, h2, h3, h4]
  exact Bool.or_comm _ _
theorem block_sym (x : S86) (s t : S85) : blocksB x s t = blocksB x t s := by
  unfold blocksB
  rw [side_neg s.f0 s.f1 t.f0 t.f1 x.f0 x.f1, side_neg s.f0 s.f1 t.f0 t.f1 x.f2 x.f3, uv_neg]
  obtain ⟨r, hr⟩ : ∃ r, r = (decide (0 < sideI s.f0 s.f1 t.f0 t.f1 x.f0 x.f1) && decide (0 < sideI s.f0 s.f1 t.f0 t.f1 x.f2 x.f3) || decide (sideI s.f0 s.f1 t.f0 t.f1 x.f0 x.f1 < 0) && decide (sideI s.f0 s.f1 t.f0 t.f1 x.f2 x.f3 < 0)) := ⟨_, rfl⟩
  simp only [← hr]
  obtain ⟨p, hp⟩ : ∃ p, p = sideI x.f0 x.f1 x.f2 x.f3 s.f0 s.f1 := ⟨_, rfl⟩
  obtain ⟨q, hq⟩ : ∃ q, q = sideI x.f0 x.f1 x.f2 x.f3 t.f0 t.f1 := ⟨_, rfl⟩
  simp only [← hp, ← hq]
  clear hr hp hq
  rw [Int.add_comm (t.f2 * absI p) (s.f2 * absI q), Int.add_comm (absI q) (absI p)]
  by_cases h1 : p = 0
  · rw [if_pos h1]
    by_cases h2 : q = 0
    · rw [if_pos h2]
    · rw [if_neg h2, if_pos h1]
  · rw [if_neg h1]
    by_cases h2 : q = 0
    · rw [if_pos h2, if_pos h2]
    · rw [if_neg h2, if_neg h2, if_neg h1, Bool.beq_comm]
theorem ridges_sym (L : Lv) (f t : Int) : ridgesL L f t = ridgesL L t f := by
  unfold ridgesL
  exact List.filter_congr fun i _ => block_sym _ _ _
theorem clouds_sym (L : Lv) (f t k h : Int) : cloudsL L f t k h = cloudsL L t f k h := by
  unfold cloudsL clK
  refine List.filter_congr fun i _ => ?_
  unfold clB
  rw [block_sym]
theorem mirrors_two (a b : S85) (s : S99) : (mirrorsF a b s = 1 ∨ mirrorsF a b s = 2) ∧ (mirrorsF b a s = 1 ∨ mirrorsF b a s = 2) ∧ mirrorsF a b s + mirrorsF b a s ≤ 3 := by
  unfold mirrorsF
  have e : s.f0 * (a.f0 - b.f0) + s.f1 * (a.f1 - b.f1) = -(s.f0 * (b.f0 - a.f0) + s.f1 * (b.f1 - a.f1)) := by
    simp only [Int.mul_sub]
    omega
  rw [e]
  generalize s.f0 * (b.f0 - a.f0) + s.f1 * (b.f1 - a.f1) = d
  by_cases h1 : d < 0
  · rw [if_pos h1, if_neg (show ¬ -d < 0 by omega)]; omega
  · rw [if_neg h1]
    by_cases h2 : -d < 0
    · rw [if_pos h2]; omega
    · rw [if_neg h2]; omega
end Go.Proofs.Ytkbdphjnpieceaa.G
