/- What moving, turning, dividing or adding walls changes: plain laws. -/
import Derived.Test.YtkbdphjnpieceaaP3
namespace Go.Proofs.Ytkbdphjnpieceaa.G
open Go.RowKit Go.Proofs.YtkbdphjnpieceaaW.PrintWords Go.Proofs.YtkbdphjnpieceaaW.PrintLast Go.Proofs.YtkbdphjnpieceaaW.PrintMore
set_option linter.unusedVariables false
set_option linter.unusedSimpArgs false
def sameB (s t : Int) : Bool := decide (0 < s) && decide (0 < t) || decide (s < 0) && decide (t < 0)
def highB (p q az bz x4 x5 : Int) : Bool := decide (0 ≤ az * absI q + bz * absI p - x4 * (absI p + absI q)) && decide (az * absI q + bz * absI p - x5 * (absI p + absI q) ≤ 0)
def faceB (p q : Int) : Bool := if p = 0 then false else if q = 0 then false else !(decide (0 < p) == decide (0 < q))
theorem block_is (x : S86) (a b : S85) : blocksB x a b = (faceB (sideI x.f0 x.f1 x.f2 x.f3 a.f0 a.f1) (sideI x.f0 x.f1 x.f2 x.f3 b.f0 b.f1) && !sameB (sideI a.f0 a.f1 b.f0 b.f1 x.f0 x.f1) (sideI a.f0 a.f1 b.f0 b.f1 x.f2 x.f3) &&
    highB (sideI x.f0 x.f1 x.f2 x.f3 a.f0 a.f1) (sideI x.f0 x.f1 x.f2 x.f3 b.f0 b.f1) a.f2 b.f2 x.f4 x.f5) := by
  unfold blocksB faceB sameB highB
  by_cases h1 : sideI x.f0 x.f1 x.f2 x.f3 a.f0 a.f1 = 0
  · rw [if_pos h1, if_pos h1]; rfl
  rw [if_neg h1, if_neg h1]
  by_cases h2 : sideI x.f0 x.f1 x.f2 x.f3 b.f0 b.f1 = 0
  · rw [if_pos h2, if_pos h2]; rfl
  rw [if_neg h2, if_neg h2]
  cases (decide (0 < sideI x.f0 x.f1 x.f2 x.f3 a.f0 a.f1) == decide (0 < sideI x.f0 x.f1 x.f2 x.f3 b.f0 b.f1))
  · rw [if_neg (by decide)]
    cases (decide (0 < sideI a.f0 a.f1 b.f0 b.f1 x.f0 x.f1) && decide (0 < sideI a.f0 a.f1 b.f0 b.f1 x.f2 x.f3) || decide (sideI a.f0 a.f1 b.f0 b.f1 x.f0 x.f1 < 0) && decide (sideI a.f0 a.f1 b.f0 b.f1 x.f2 x.f3 < 0))
    · rw [if_neg (by decide)]; rfl
    · rw [if_pos rfl]; rfl
  · rw [if_pos rfl]; rfl
theorem abs_neg_ (n : Int) : absI (-n) = absI n := by unfold absI; split <;> split <;> omega
theorem face_neg (p q : Int) : faceB (-p) (-q) = faceB p q := by
  unfold faceB
  by_cases h1 : p = 0
  · rw [if_pos h1, if_pos (by omega)]
  rw [if_neg h1, if_neg (by omega)]
  by_cases h2 : q = 0
  · rw [if_pos h2, if_pos (by omega)]
  rw [if_neg h2, if_neg (by omega)]
  by_cases h3 : 0 < p <;> by_cases h4 : 0 < q <;> simp [h3, h4] <;> omega
theorem high_neg (p q az bz x4 x5 : Int) : highB (-p) (-q) az bz x4 x5 = highB p q az bz x4 x5 := by unfold highB; rw [abs_neg_, abs_neg_]
theorem same_comm (s t : Int) : sameB s t = sameB t s := by unfold sameB; rw [Bool.and_comm, Bool.and_comm (decide (s < 0))]
/-- The ends of a wall exchanged. -/
theorem block_ends (x : S86) (a b : S85) : blocksB ⟨x.f2, x.f3, x.f0, x.f1, x.f4, x.f5⟩ a b = blocksB x a b := by
  rw [block_is, block_is]
  show (faceB (sideI x.f2 x.f3 x.f0 x.f1 a.f0 a.f1) (sideI x.f2 x.f3 x.f0 x.f1 b.f0 b.f1) && !sameB (sideI a.f0 a.f1 b.f0 b.f1 x.f2 x.f3) (sideI a.f0 a.f1 b.f0 b.f1 x.f0 x.f1) && highB (sideI x.f2 x.f3 x.f0 x.f1 a.f0 a.f1) (sideI x.f2 x.f3 x.f0 x.f1 b.f0 b.f1) a.f2 b.f2 x.f4 x.f5) = _
  rw [side_neg x.f0 x.f1 x.f2 x.f3, side_neg x.f0 x.f1 x.f2 x.f3, face_neg, high_neg, same_comm]
theorem side_move (p0 p1 q0 q1 x0 x1 e n : Int) : sideI (p0 + e) (p1 + n) (q0 + e) (q1 + n) (x0 + e) (x1 + n) = sideI p0 p1 q0 q1 x0 x1 := by
  unfold sideI
  rw [show q0 + e - (p0 + e) = q0 - p0 by omega, show x1 + n - (p1 + n) = x1 - p1 by omega, show q1 + n - (p1 + n) = q1 - p1 by omega, show x0 + e - (p0 + e) = x0 - p0 by omega]
theorem side_turn (p0 p1 q0 q1 x0 x1 : Int) : sideI p1 p0 q1 q0 x1 x0 = -sideI p0 p1 q0 q1 x0 x1 := by
  unfold sideI
  rw [Int.mul_comm (q1 - p1), Int.mul_comm (q0 - p0)]
  have h1 := Int.mul_comm (x0 - p0) (q1 - p1)
  have h2 := Int.mul_comm (x1 - p1) (q0 - p0)
  omega
def mvX (e n : Int) (r : Bool) (x y : Int) : Int := if r = true then y + n else x + e
def mvY (e n : Int) (r : Bool) (x y : Int) : Int := if r = true then x + e else y + n
def mvS (e n : Int) (r : Bool) (s : S85) : S85 := ⟨mvX e n r s.f0 s.f1, mvY e n r s.f0 s.f1, s.f2, s.f3⟩
def mvW (e n : Int) (r : Bool) (x : S86) : S86 := ⟨mvX e n r x.f0 x.f1, mvY e n r x.f0 x.f1, mvX e n r x.f2 x.f3, mvY e n r x.f2 x.f3, x.f4, x.f5⟩
def mvC (e n : Int) (r : Bool) (c : S88) : S88 := ⟨mvW e n r c.f0, c.f1, c.f2⟩
def mvU (r : Bool) (u : S99) : S99 := if r = true then ⟨u.f1, u.f0, u.f2⟩ else u
theorem side_mv (e n : Int) (r : Bool) (p0 p1 q0 q1 x0 x1 : Int) : sideI (mvX e n r p0 p1) (mvY e n r p0 p1) (mvX e n r q0 q1) (mvY e n r q0 q1) (mvX e n r x0 x1) (mvY e n r x0 x1) = if r = true then -sideI p0 p1 q0 q1 x0 x1 else sideI p0 p1 q0 q1 x0 x1 := by
  unfold mvX mvY
  cases r
  · simp only [Bool.false_eq_true, if_false]; exact side_move ..
  · simp only [if_true]
    rw [side_turn, side_move]
theorem same_neg (s t : Int) : sameB (-s) (-t) = sameB s t := uv_neg s t
theorem block_mv (e n : Int) (r : Bool) (x : S86) (a b : S85) : blocksB (mvW e n r x) (mvS e n r a) (mvS e n r b) = blocksB x a b := by
  rw [block_is, block_is]
  unfold mvW mvS
  simp only [side_mv]
  cases r
  · simp only [Bool.false_eq_true, if_false]
  · simp only [if_true, face_neg, high_neg, same_neg]
theorem mir_mv (e n : Int) (r : Bool) (a b : S85) (u : S99) : mirrorsF (mvS e n r a) (mvS e n r b) (mvU r u) = mirrorsF a b u := by
  unfold mirrorsF mvS mvU mvX mvY
  cases r
  · simp only [Bool.false_eq_true, if_false]
    rw [show b.f0 + e - (a.f0 + e) = b.f0 - a.f0 by omega, show b.f1 + n - (a.f1 + n) = b.f1 - a.f1 by omega]
  · simp only [if_true]
    rw [show b.f0 + e - (a.f0 + e) = b.f0 - a.f0 by omega, show b.f1 + n - (a.f1 + n) = b.f1 - a.f1 by omega, Int.add_comm]
/-- A wall that is lower or higher than both stations. -/
theorem block_over {x : S86} {s t : S85} (h : blocksB x s t = true) : min s.f2 t.f2 ≤ x.f5 ∧ x.f4 ≤ max s.f2 t.f2 := by
  rw [block_is] at h
  simp only [Bool.and_eq_true] at h
  obtain ⟨⟨h1, _⟩, h3⟩ := h
  generalize sideI x.f0 x.f1 x.f2 x.f3 s.f0 s.f1 = p at *
  generalize sideI x.f0 x.f1 x.f2 x.f3 t.f0 t.f1 = q at *
  unfold faceB at h1
  have hp : 0 < absI p := by
    by_cases e : p = 0
    · rw [if_pos e] at h1; exact absurd h1 (by decide)
    · unfold absI; split <;> omega
  have hq : 0 < absI q := by
    by_cases e0 : p = 0
    · rw [if_pos e0] at h1; exact absurd h1 (by decide)
    rw [if_neg e0] at h1
    by_cases e : q = 0
    · rw [if_pos e] at h1; exact absurd h1 (by decide)
    · unfold absI; split <;> omega
  clear h1
  unfold highB at h3
  generalize absI p = u at *
  generalize absI q = v at *
  simp only [Bool.and_eq_true, decide_eq_true_eq, Int.mul_add] at h3
  obtain ⟨h3, h4⟩ := h3
  constructor
  · apply Int.not_lt.1
    intro hc
    have m1 := Int.mul_pos (show 0 < s.f2 - x.f5 by omega) hq
    have m2 := Int.mul_pos (show 0 < t.f2 - x.f5 by omega) hp
    rw [Int.sub_mul] at m1 m2
    omega
  · apply Int.not_lt.1
    intro hc
    have m1 := Int.mul_pos (show 0 < x.f4 - s.f2 by omega) hq
    have m2 := Int.mul_pos (show 0 < x.f4 - t.f2 by omega) hp
    rw [Int.sub_mul] at m1 m2
    omega
/-- Both lines' sides by the same factor. -/
theorem abs_mul_ {c p : Int} (hc : 0 < c) : absI (c * p) = c * absI p := by
  unfold absI
  by_cases h : 0 ≤ p
  · rw [if_pos h, if_pos (Int.mul_nonneg (by omega) h)]
  · have := Int.mul_pos hc (show 0 < -p by omega)
    rw [Int.mul_neg] at this
    rw [if_neg h, if_neg (by omega), Int.mul_neg]
theorem face_mul {c p q : Int} (hc : 0 < c) : faceB (c * p) (c * q) = faceB p q := by
  have z : ∀ m : Int, (c * m = 0) = (m = 0) := fun m => by
    apply propext
    constructor
    · intro h
      rcases Int.mul_eq_zero.1 h with h | h
      · omega
      · exact h
    · intro h; rw [h, Int.mul_zero]
  have g : ∀ m : Int, (0 < c * m) = (0 < m) := fun m => by
    apply propext
    constructor
    · intro h
      apply Int.not_le.1
      intro hm
      have := Int.mul_nonneg (show 0 ≤ c by omega) (show 0 ≤ -m by omega)
      rw [Int.mul_neg] at this
      omega
    · intro h; exact Int.mul_pos hc h
  unfold faceB
  simp only [z, g]
theorem high_mul {c p q az bz x4 x5 : Int} (hc : 0 < c) : highB (c * p) (c * q) az bz x4 x5 = highB p q az bz x4 x5 := by
  unfold highB
  rw [abs_mul_ hc, abs_mul_ hc]
  have e : ∀ x : Int, az * (c * absI q) + bz * (c * absI p) - x * (c * absI p + c * absI q) = c * (az * absI q + bz * absI p - x * (absI p + absI q)) := fun x => by
    rw [← Int.mul_add c, Int.mul_left_comm az, Int.mul_left_comm bz, Int.mul_left_comm x, ← Int.mul_add, ← Int.mul_sub]
  rw [e, e]
  have g : ∀ m : Int, (0 ≤ c * m) = (0 ≤ m) := fun m => by
    apply propext
    constructor
    · intro h
      apply Int.not_lt.1
      intro hm
      have := Int.mul_pos hc (show 0 < -m by omega)
      rw [Int.mul_neg] at this
      omega
    · intro h; exact Int.mul_nonneg (by omega) h
  have g' : ∀ m : Int, (c * m ≤ 0) = (m ≤ 0) := fun m => by
    have := g (-m)
    rw [Int.mul_neg] at this
    apply propext
    constructor
    · intro h
      have := this.mp (by omega)
      omega
    · intro h
      have := this.mpr (by omega)
      omega
  simp only [g, g']
theorem same_part {n k s t u : Int} (h0 : 0 < k) (h1 : k < n) (hu : n * u = (n - k) * s + k * t) : sameB s t = (sameB s u && sameB u t) := by
  have a1 : 0 ≤ s → 0 ≤ t → 0 ≤ u := fun hs ht => by
    apply Int.not_lt.1; intro hm
    have m1 := Int.mul_pos (show 0 < n by omega) (show 0 < -u by omega)
    have m2 := Int.mul_nonneg (show 0 ≤ n - k by omega) hs
    have m3 := Int.mul_nonneg (show 0 ≤ k by omega) ht
    rw [Int.mul_neg] at m1
    omega
  have a2 : 0 < s → 0 < t → 0 < u := fun hs ht => by
    apply Int.not_le.1; intro hm
    have m1 := Int.mul_nonneg (show 0 ≤ n by omega) (show 0 ≤ -u by omega)
    have m2 := Int.mul_pos (show 0 < n - k by omega) hs
    have m3 := Int.mul_pos h0 ht
    rw [Int.mul_neg] at m1
    omega
  have a3 : s < 0 → t < 0 → u < 0 := fun hs ht => by
    apply Int.not_le.1; intro hm
    have m1 := Int.mul_nonneg (show 0 ≤ n by omega) hm
    have m2 := Int.mul_pos (show 0 < n - k by omega) (show 0 < -s by omega)
    have m3 := Int.mul_pos h0 (show 0 < -t by omega)
    rw [Int.mul_neg] at m2 m3
    omega
  unfold sameB
  by_cases s1 : 0 < s <;> by_cases s2 : s < 0 <;> by_cases t1 : 0 < t <;> by_cases t2 : t < 0 <;> by_cases u1 : 0 < u <;> by_cases u2 : u < 0 <;> simp [s1, s2, t1, t2, u1, u2] <;> omega
/-- A wall divided at a place on it. -/
theorem block_part {x : S86} {a b : S85} {n k d0 d1 u v : Int} (h0 : 0 < k) (h1 : k < n) (e0 : x.f2 - x.f0 = d0 * n) (e1 : x.f3 - x.f1 = d1 * n) (hu : u = x.f0 + d0 * k) (hv : v = x.f1 + d1 * k) :
    blocksB x a b = (blocksB ⟨x.f0, x.f1, u, v, x.f4, x.f5⟩ a b || blocksB ⟨u, v, x.f2, x.f3, x.f4, x.f5⟩ a b) := by
  rw [block_is, block_is, block_is]
  have hS : ∀ y0 y1 : Int, sideI x.f0 x.f1 x.f2 x.f3 y0 y1 = n * (d0 * (y1 - x.f1) - d1 * (y0 - x.f0)) := fun y0 y1 => by
    unfold sideI
    rw [e0, e1, Int.mul_comm d0 n, Int.mul_comm d1 n, Int.mul_assoc, Int.mul_assoc, ← Int.mul_sub]
  have hK : ∀ y0 y1 : Int, sideI x.f0 x.f1 u v y0 y1 = k * (d0 * (y1 - x.f1) - d1 * (y0 - x.f0)) := fun y0 y1 => by
    unfold sideI
    rw [show u - x.f0 = d0 * k by omega, show v - x.f1 = d1 * k by omega, Int.mul_comm d0 k, Int.mul_comm d1 k, Int.mul_assoc, Int.mul_assoc, ← Int.mul_sub]
  have hN : ∀ y0 y1 : Int, sideI u v x.f2 x.f3 y0 y1 = (n - k) * (d0 * (y1 - x.f1) - d1 * (y0 - x.f0)) := fun y0 y1 => by
    unfold sideI
    have q0 : x.f2 - u = (n - k) * d0 := by rw [Int.sub_mul, Int.mul_comm n, Int.mul_comm k]; omega
    have q1 : x.f3 - v = (n - k) * d1 := by rw [Int.sub_mul, Int.mul_comm n, Int.mul_comm k]; omega
    rw [q0, q1, Int.mul_assoc, Int.mul_assoc, ← Int.mul_sub, show y1 - v = (y1 - x.f1) - d1 * k by omega, show y0 - u = (y0 - x.f0) - d0 * k by omega]
    congr 1
    rw [Int.mul_sub d0 (y1 - x.f1), Int.mul_sub d1 (y0 - x.f0), show d0 * (d1 * k) = d1 * (d0 * k) from by rw [← Int.mul_assoc, Int.mul_comm d0 d1, Int.mul_assoc]]
    omega
  have hU : n * sideI a.f0 a.f1 b.f0 b.f1 u v = (n - k) * sideI a.f0 a.f1 b.f0 b.f1 x.f0 x.f1 + k * sideI a.f0 a.f1 b.f0 b.f1 x.f2 x.f3 := by
    have l : ∀ y0 y1 m0 m1 : Int, sideI a.f0 a.f1 b.f0 b.f1 (y0 + m0) (y1 + m1) = sideI a.f0 a.f1 b.f0 b.f1 y0 y1 + ((b.f0 - a.f0) * m1 - (b.f1 - a.f1) * m0) := fun y0 y1 m0 m1 => by
      unfold sideI
      rw [show y1 + m1 - a.f1 = (y1 - a.f1) + m1 by omega, show y0 + m0 - a.f0 = (y0 - a.f0) + m0 by omega, Int.mul_add, Int.mul_add]
      omega
    have l1 := l x.f0 x.f1 (d0 * k) (d1 * k)
    have l2 := l x.f0 x.f1 (d0 * n) (d1 * n)
    rw [← hu, ← hv] at l1
    rw [show x.f0 + d0 * n = x.f2 by omega, show x.f1 + d1 * n = x.f3 by omega] at l2
    have f : ∀ c : Int, (b.f0 - a.f0) * (d1 * c) - (b.f1 - a.f1) * (d0 * c) = c * ((b.f0 - a.f0) * d1 - (b.f1 - a.f1) * d0) := fun c => by
      rw [Int.mul_sub, Int.mul_comm c, Int.mul_comm c, Int.mul_assoc, Int.mul_assoc]
    rw [f] at l1 l2
    rw [l1, l2]
    generalize sideI a.f0 a.f1 b.f0 b.f1 x.f0 x.f1 = s
    generalize (b.f0 - a.f0) * d1 - (b.f1 - a.f1) * d0 = m
    rw [Int.mul_add, Int.mul_add, Int.sub_mul, Int.mul_left_comm n k m]
    omega
  simp only [hS, hK, hN]
  rw [face_mul h0, face_mul (show 0 < n - k by omega), face_mul (show 0 < n by omega), high_mul h0, high_mul (show 0 < n - k by omega), high_mul (show 0 < n by omega), same_part h0 h1 hU]
  cases faceB (d0 * (a.f1 - x.f1) - d1 * (a.f0 - x.f0)) (d0 * (b.f1 - x.f1) - d1 * (b.f0 - x.f0)) <;> cases highB (d0 * (a.f1 - x.f1) - d1 * (a.f0 - x.f0)) (d0 * (b.f1 - x.f1) - d1 * (b.f0 - x.f0)) a.f2 b.f2 x.f4 x.f5 <;>
    cases sameB (sideI a.f0 a.f1 b.f0 b.f1 x.f0 x.f1) (sideI a.f0 a.f1 b.f0 b.f1 u v) <;> cases sameB (sideI a.f0 a.f1 b.f0 b.f1 u v) (sideI a.f0 a.f1 b.f0 b.f1 x.f2 x.f3) <;> rfl
end Go.Proofs.Ytkbdphjnpieceaa.G
