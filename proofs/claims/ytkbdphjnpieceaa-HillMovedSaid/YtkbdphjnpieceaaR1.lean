/- The reference's small functions: In, sign, Side, IsWall; its land in memory. -/
import Derived.Test.YtkbdphjnpieceaaH23
import Derived.Test.YtkbdphjnpieceaaOp
namespace Go.Proofs.Ytkbdphjnpieceaa.G
open Go.RowKit Go.Proofs.YtkbdphjnpieceaaW.PrintWords Go.Proofs.YtkbdphjnpieceaaW.PrintLast Go.Proofs.YtkbdphjnpieceaaW.PrintMore
open Go.Sort (grow)
set_option linter.unusedVariables false
set_option linter.unusedSimpArgs false

theorem in_c (n lo hi : Int) (w : World) : Calls Try.prog 23 #[.int .i64 n, .int .i64 lo, .int .i64 hi] w fun e w' => e = .returned (.bool (inB n lo hi)) ∧ w = w' := by
  by_cases h : lo ≤ n
  · have hd : decide (lo ≤ n) = true := by simpa using h
    go_enter Try.func23, Try.ntmps23
    go_wp2
    go_ret
    exact ⟨ret_bool (by simp [inB, h]), rfl⟩
  · have hd : decide (lo ≤ n) = false := by simpa using h
    go_enter Try.func23, Try.ntmps23
    go_wp2
    go_ret
    exact ⟨ret_bool (by simp only [inB, hd, Bool.false_and]), rfl⟩
def cSt (s : S65) : S85 := ⟨s.f0, s.f1, s.f2, s.f3⟩
def cWl (x : S55) : S86 := ⟨x.f0, x.f1, x.f2, x.f3, x.f4, x.f5⟩
def cCl (x : S61) : S88 := ⟨cWl x.f0, x.f1, x.f2⟩
def cSu (s : S50) : S99 := ⟨s.f0, s.f1, s.f2⟩
theorem iswall_c (x : S55) (w : World) : Calls Try.prog 80 #[.agg #[.int .i64 x.f0, .int .i64 x.f1, .int .i64 x.f2, .int .i64 x.f3, .int .i64 x.f4, .int .i64 x.f5]] w fun e w' => e = .returned (.bool (wallOK (cWl x))) ∧ Below w.heap.size w w' := by
  have HS : Aside0 (wallOK (cWl x) = (inB x.f0 0 100 && inB x.f1 0 100 && (inB x.f2 0 100 && inB x.f3 0 100) && !(x.f0 == x.f2 && x.f1 == x.f3) && inB x.f4 0 x.f5 && decide (x.f5 ≤ 1000))) := ⟨rfl⟩
  have HB := Aside0.mk (b1 w (.cells #[.int .i64 x.f0, .int .i64 x.f1, .int .i64 x.f2, .int .i64 x.f3, .int .i64 x.f4, .int .i64 x.f5] 55))
  go_enter Try.func80, Try.ntmps80
  go_wp2_with fail
  refine (in_c _ _ _ _).mono ?_
  rintro e w1 ⟨rfl, rfl⟩
  generalize inB x.f0 0 100 = r1 at *
  cases r1
  · go_wp2_with fail
    go_ret
    exact ⟨ret_bool (by rw [HS.out]; rfl), HB.out⟩
  go_wp2_with fail
  refine (in_c _ _ _ _).mono ?_
  rintro e w1 ⟨rfl, rfl⟩
  generalize inB x.f1 0 100 = r1 at *
  cases r1
  · go_wp2_with fail
    go_ret
    exact ⟨ret_bool (by rw [HS.out]; rfl), HB.out⟩
  go_wp2_with fail
  refine (in_c _ _ _ _).mono ?_
  rintro e w1 ⟨rfl, rfl⟩
  generalize inB x.f2 0 100 = r1 at *
  cases r1
  · go_wp2_with fail
    go_ret
    exact ⟨ret_bool (by rw [HS.out]; rfl), HB.out⟩
  go_wp2_with fail
  refine (in_c _ _ _ _).mono ?_
  rintro e w1 ⟨rfl, rfl⟩
  generalize inB x.f3 0 100 = r1 at *
  cases r1
  · go_wp2_with fail
    go_ret
    exact ⟨ret_bool (by rw [HS.out]; rfl), HB.out⟩
  by_cases hne : x.f0 = x.f2 ∧ x.f1 = x.f3
  · have HS2 : Aside0 (wallOK (cWl x) = false) := ⟨by rw [HS.out]; simp [hne.1, hne.2]⟩
    obtain ⟨e1, e2⟩ := hne
    have t1 : (x.f0 != x.f2) = false := by simp [e1]
    have t2 : (x.f1 != x.f3) = false := by simp [e2]
    clear e1 e2
    go_wp2_with fail
    go_ret
    exact ⟨ret_bool (by rw [HS2.out]), HB.out⟩
  · have hb : (x.f0 == x.f2 && x.f1 == x.f3) = false := by simpa using hne
    replace HS : Aside0 (wallOK (cWl x) = (inB x.f4 0 x.f5 && decide (x.f5 ≤ 1000))) := ⟨by rw [HS.out, hb]; simp⟩
    clear hb
    have t12 : (x.f0 != x.f2) = true ∨ ((x.f0 != x.f2) = false ∧ (x.f1 != x.f3) = true) := by
      by_cases h0 : x.f0 = x.f2
      · have h1 : ¬ x.f1 = x.f3 := fun h => hne ⟨h0, h⟩
        exact .inr ⟨by simp [h0], by simp [h1]⟩
      · exact .inl (by simp [h0])
    clear hne
    have HC := Aside0.mk (fun W => in_c x.f4 0 x.f5 W)
    generalize inB x.f4 0 x.f5 = r5 at *
    rcases t12 with t1 | ⟨t1, t2⟩
    all_goals
      go_wp2_with fail
      refine (HC.out _).mono ?_
      rintro e w1 ⟨rfl, rfl⟩
      cases r5
      · go_wp2_with fail
        go_ret
        exact ⟨ret_bool (by rw [HS.out]; rfl), HB.out⟩
      · go_wp2_with fail
        go_ret
        exact ⟨ret_bool (by rw [HS.out]; rfl), HB.out⟩

end Go.Proofs.Ytkbdphjnpieceaa.G
