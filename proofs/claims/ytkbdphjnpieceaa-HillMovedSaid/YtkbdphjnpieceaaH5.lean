/- Contracts of bound.above and Wall.blocks. -/
import Derived.Test.YtkbdphjnpieceaaH3
import Derived.Laws.EntriesVeiled
import Derived.Deep.RegionHeld3
import Derived.Deep.DeepCutAuto
namespace Go.Proofs.Ytkbdphjnpieceaa.G
open Go.RowKit Go.Proofs.YtkbdphjnpieceaaW.PrintWords Go.Proofs.YtkbdphjnpieceaaW.PrintLast Go.Proofs.YtkbdphjnpieceaaW.PrintMore
open Go.Sort (grow)
set_option linter.unusedVariables false
set_option linter.unusedSimpArgs false

theorem mul_bd {a b : Int} (A B : Nat) (h1 : -(A : Int) ≤ a) (h2 : a ≤ A) (h3 : -(B : Int) ≤ b) (h4 : b ≤ B) : -((A * B : Nat) : Int) ≤ a * b ∧ a * b ≤ ((A * B : Nat) : Int) := by
  have h : (a * b).natAbs ≤ A * B := by
    rw [Int.natAbs_mul]
    exact Nat.mul_le_mul (by omega) (by omega)
  omega
theorem wr64 {n : Int} (h : -9223372036854775808 ≤ n) (h2 : n ≤ 9223372036854775807) : wrap64 n = n := by unfold wrap64; omega

/-- A cell of a new block. -/
theorem cnew {w : World} {cs : Array Value} {t : TypeId} {b i : Nat} {v : Value} (hb : b = w.heap.size) (hv : cs[i]? = some v) : (w.alloc (.cells cs t)).cell? ⟨b, i, none⟩ = some v := by
  subst hb
  rw [← hv]
  exact World.cell?_alloc_new w cs t i

theorem sc_same {w : World} {g i : Nat} {v : Value} (h : ∃ u, w.cell? ⟨g, i, none⟩ = some u) : (w.setCell ⟨g, i, none⟩ v).cell? ⟨g, i, none⟩ = some v := by
  obtain ⟨u, hu⟩ := h
  exact World.cell?_setCell_same w _ v hu
theorem sc_blk {w : World} {g g' i j : Nat} {v u : Value} (h : g ≠ g') (k : w.cell? ⟨g', j, none⟩ = some u) : (w.setCell ⟨g, i, none⟩ v).cell? ⟨g', j, none⟩ = some u :=
  (World.cell?_setCell_other w _ _ v (fun e => h (by injection e))).trans k
theorem sc_ex {w : World} {p q : Addr} {v : Value} (h : ∃ u, w.cell? q = some u) : ∃ u, (w.setCell p v).cell? q = some u := by
  obtain ⟨u, hu⟩ := h
  exact cell?_setCell_some hu
/-- On which side of the line from p to q the place x is. -/
def sideI (p0 p1 q0 q1 x0 x1 : Int) : Int := (q0 - p0) * (x1 - p1) - (q1 - p1) * (x0 - p0)
theorem sideI_bd {p0 p1 q0 q1 x0 x1 : Int} (a0 : 0 ≤ p0 ∧ p0 ≤ 100) (a1 : 0 ≤ p1 ∧ p1 ≤ 100) (a2 : 0 ≤ q0 ∧ q0 ≤ 100) (a3 : 0 ≤ q1 ∧ q1 ≤ 100) (a4 : 0 ≤ x0 ∧ x0 ≤ 100) (a5 : 0 ≤ x1 ∧ x1 ≤ 100) :
    -20000 ≤ sideI p0 p1 q0 q1 x0 x1 ∧ sideI p0 p1 q0 q1 x0 x1 ≤ 20000 := by
  have h1 := mul_bd (a := q0 - p0) (b := x1 - p1) 100 100 (by omega) (by omega) (by omega) (by omega)
  have h2 := mul_bd (a := q1 - p1) (b := x0 - p0) 100 100 (by omega) (by omega) (by omega) (by omega)
  unfold sideI
  omega
theorem side_v {p0 p1 q0 q1 x0 x1 : Int} (a0 : 0 ≤ p0 ∧ p0 ≤ 100) (a1 : 0 ≤ p1 ∧ p1 ≤ 100) (a2 : 0 ≤ q0 ∧ q0 ≤ 100) (a3 : 0 ≤ q1 ∧ q1 ≤ 100) (a4 : 0 ≤ x0 ∧ x0 ≤ 100) (a5 : 0 ≤ x1 ∧ x1 ≤ 100) (w : World) :
    Calls Try.prog 85 #[.agg #[.int .i64 p0, .int .i64 p1], .agg #[.int .i64 q0, .int .i64 q1], .agg #[.int .i64 x0, .int .i64 x1]] w fun e w' => e = .returned (.int .i64 (sideI p0 p1 q0 q1 x0 x1)) ∧ Below w.heap.size w w' := by
  have h1 := mul_bd (a := q0 - p0) (b := x1 - p1) 100 100 (by omega) (by omega) (by omega) (by omega)
  have h2 := mul_bd (a := q1 - p1) (b := x0 - p0) 100 100 (by omega) (by omega) (by omega) (by omega)
  refine (side_c p0 p1 q0 q1 x0 x1 w).mono fun e w' ⟨he, hb⟩ => ⟨?_, hb⟩
  rw [he, wr64 (n := q0 - p0) (by omega) (by omega), wr64 (n := x1 - p1) (by omega) (by omega), wr64 (n := q1 - p1) (by omega) (by omega), wr64 (n := x0 - p0) (by omega) (by omega), wr64 (n := (q0 - p0) * (x1 - p1)) (by omega) (by omega),
    wr64 (n := (q1 - p1) * (x0 - p0)) (by omega) (by omega), wr64 (by omega) (by omega)]
  rfl

/-- bound.above, of the base or the top (g: the function of the wall that is called). -/
theorem above_c (g : Nat) (eg : ∀ args w, (callFunc g args).run Try.prog w = .ok (.enter g args) w) (h : Int) (u1 v1 u2 v2 b t ax ay az am bx by_ bz bm far other : Int)
    (hg : ∀ W, Calls Try.prog g #[.agg #[.int .i64 u1, .int .i64 v1, .int .i64 u2, .int .i64 v2, .int .i64 b, .int .i64 t]] W fun e w' => e = .returned (.int .i64 h) ∧ Below W.heap.size W w') (w : World) :
    Calls Try.prog 89 #[.agg #[.func (.func g) #[] #[]], .agg #[.int .i64 u1, .int .i64 v1, .int .i64 u2, .int .i64 v2, .int .i64 b, .int .i64 t], .agg #[.int .i64 ax, .int .i64 ay, .int .i64 az, .int .i64 am], .agg #[.int .i64 bx, .int .i64 by_, .int .i64 bz, .int .i64 bm], .int .i64 far, .int .i64 other] w
      fun e w' => e = .returned (.int .i64 (wrap64 (wrap64 (wrap64 (az * other) + wrap64 (bz * far)) - wrap64 (h * wrap64 (far + other))))) ∧ Below w.heap.size w w' := by
  have HG := Aside0.mk hg
  clear hg
  go_enter Try.func89, Try.ntmps89
  go_wp2
  refine wp_abs (fun W => Below w.heap.size w W ∧ W.cell? ⟨w.heap.size + 1 + 1, 2, none⟩ = some (.int .i64 az) ∧ W.cell? ⟨w.heap.size + 1 + 1 + 1, 2, none⟩ = some (.int .i64 bz) ∧ W.cell? ⟨w.heap.size, 0, none⟩ = some (.func (.func g) #[] #[]) ∧ (W.cell? ⟨w.heap.size + 1, 0, none⟩ = some (.int .i64 u1) ∧ W.cell? ⟨w.heap.size + 1, 1, none⟩ = some (.int .i64 v1) ∧ W.cell? ⟨w.heap.size + 1, 2, none⟩ = some (.int .i64 u2) ∧ W.cell? ⟨w.heap.size + 1, 3, none⟩ = some (.int .i64 v2) ∧ W.cell? ⟨w.heap.size + 1, 4, none⟩ = some (.int .i64 b) ∧ W.cell? ⟨w.heap.size + 1, 5, none⟩ = some (.int .i64 t))) ?_ ?_
  · refine ⟨below_alloc (below_alloc (below_alloc (b1 _ _) _) _) _, ?_, ?_, ?_, ?_, ?_, ?_, ?_, ?_, ?_⟩
    all_goals first | exact cnew (by simp) rfl | exact cb (b1 _ _) (cnew (by simp) rfl) | exact cb (b1 _ _) (cb (b1 _ _) (cnew (by simp) rfl)) | exact cb (b1 _ _) (cb (b1 _ _) (cb (b1 _ _) (cnew (by simp) rfl)))
  rintro W ⟨hb, d0, d1, d2, y0, y1, y2, y3, y4, y5⟩
  have D0 := fun d os => cell_regrown d0 d os
  have D1 := fun d os => cell_regrown d1 d os
  have D2 := fun d os => cell_regrown d2 d os
  have Y0 := fun d os => cell_regrown y0 d os
  have Y1 := fun d os => cell_regrown y1 d os
  have Y2 := fun d os => cell_regrown y2 d os
  have Y3 := fun d os => cell_regrown y3 d os
  have Y4 := fun d os => cell_regrown y4 d os
  have Y5 := fun d os => cell_regrown y5 d os
  refine wp_region_quiet_below (by kernel_rfl) (by kernel_rfl) ?_
  repeat (go_big_quiet_step (exact Calls.regrown_of (HG.out _)))
  refine wpQuiet_nil ?_
  intro _ hw'
  obtain ⟨⟨dq, osq⟩, hw''⟩ := hw'
  subst hw''
  go_wp2
  go_ret
  exact ⟨rfl, bt hb (below_regrown W dq osq)⟩

def absI (n : Int) : Int := if 0 ≤ n then n else -n
/-- Does a wall block the line between two stations? -/
def blocksB (x : S86) (a b : S85) : Bool :=
  if sideI x.f0 x.f1 x.f2 x.f3 a.f0 a.f1 = 0 then false else if sideI x.f0 x.f1 x.f2 x.f3 b.f0 b.f1 = 0 then false
  else if (decide (0 < sideI x.f0 x.f1 x.f2 x.f3 a.f0 a.f1) == decide (0 < sideI x.f0 x.f1 x.f2 x.f3 b.f0 b.f1)) = true then false
  else if (decide (0 < sideI a.f0 a.f1 b.f0 b.f1 x.f0 x.f1) && decide (0 < sideI a.f0 a.f1 b.f0 b.f1 x.f2 x.f3) || decide (sideI a.f0 a.f1 b.f0 b.f1 x.f0 x.f1 < 0) && decide (sideI a.f0 a.f1 b.f0 b.f1 x.f2 x.f3 < 0)) = true then false
  else decide (0 ≤ a.f2 * absI (sideI x.f0 x.f1 x.f2 x.f3 b.f0 b.f1) + b.f2 * absI (sideI x.f0 x.f1 x.f2 x.f3 a.f0 a.f1) - x.f4 * (absI (sideI x.f0 x.f1 x.f2 x.f3 a.f0 a.f1) + absI (sideI x.f0 x.f1 x.f2 x.f3 b.f0 b.f1))) &&
    decide (a.f2 * absI (sideI x.f0 x.f1 x.f2 x.f3 b.f0 b.f1) + b.f2 * absI (sideI x.f0 x.f1 x.f2 x.f3 a.f0 a.f1) - x.f5 * (absI (sideI x.f0 x.f1 x.f2 x.f3 a.f0 a.f1) + absI (sideI x.f0 x.f1 x.f2 x.f3 b.f0 b.f1)) ≤ 0)
def okSt (s : S85) : Prop := (0 ≤ s.f0 ∧ s.f0 ≤ 100) ∧ (0 ≤ s.f1 ∧ s.f1 ≤ 100) ∧ 0 ≤ s.f2 ∧ s.f2 ≤ 1000
def okWl (x : S86) : Prop := (0 ≤ x.f0 ∧ x.f0 ≤ 100) ∧ (0 ≤ x.f1 ∧ x.f1 ≤ 100) ∧ (0 ≤ x.f2 ∧ x.f2 ≤ 100) ∧ (0 ≤ x.f3 ∧ x.f3 ≤ 100) ∧ (0 ≤ x.f4 ∧ x.f4 ≤ 1000) ∧ (0 ≤ x.f5 ∧ x.f5 ≤ 1000)

end Go.Proofs.Ytkbdphjnpieceaa.G
