/- The reference's Crosses and Blocks. -/
import Derived.Test.YtkbdphjnpieceaaR1
namespace Go.Proofs.Ytkbdphjnpieceaa.G
open Go.RowKit Go.Proofs.YtkbdphjnpieceaaW.PrintWords Go.Proofs.YtkbdphjnpieceaaW.PrintLast Go.Proofs.YtkbdphjnpieceaaW.PrintMore
open Go.Sort (grow)
set_option linter.unusedVariables false
set_option linter.unusedSimpArgs false

theorem Calls.same_quiet {P : Program} {f : FuncId} {args : Array Value} {w : World} {n : Nat} {v : Value}
    (h : Calls P f args (w.drewN n) fun e w' => e = .returned v ∧ w.drewN n = w') : Calls P f args (w.drewN n) fun e w'' => e = .returned v ∧ ∃ m, w'' = w.drewN m :=
  h.mono fun _ _ ⟨he, hm⟩ => ⟨he, n, hm.symm⟩
theorem signI_cases (n : Int) : signI n = -1 ∨ signI n = 0 ∨ signI n = 1 := by unfold signI; split <;> (try split) <;> simp
def crossI (s t u v : Int) : Bool := (signI s * signI t == -1) && (signI u * signI v != 1)
def crossB (x : S55) (a b : S65) : Bool :=
  crossI (sideI x.f0 x.f1 x.f2 x.f3 a.f0 a.f1) (sideI x.f0 x.f1 x.f2 x.f3 b.f0 b.f1) (sideI a.f0 a.f1 b.f0 b.f1 x.f0 x.f1) (sideI a.f0 a.f1 b.f0 b.f1 x.f2 x.f3)

set_option maxHeartbeats 1000000 in
theorem crosses_c (x : S55) (a b : S65) (hx : okWl (cWl x)) (ha : okSt (cSt a)) (hb : okSt (cSt b)) (w : World) :
    Calls Try.prog 91 #[.agg #[.int .i64 x.f0, .int .i64 x.f1, .int .i64 x.f2, .int .i64 x.f3, .int .i64 x.f4, .int .i64 x.f5], .agg #[.int .i64 a.f0, .int .i64 a.f1, .int .i64 a.f2, .int .i64 a.f3], .agg #[.int .i64 b.f0, .int .i64 b.f1, .int .i64 b.f2, .int .i64 b.f3]] w
      fun e w' => e = .returned (.bool (crossB x a b)) ∧ Below w.heap.size w w' := by
  obtain ⟨x0, x1, x2, x3, _, _⟩ := hx
  obtain ⟨a0, a1, _⟩ := ha
  obtain ⟨b0, b1', _⟩ := hb
  simp only [cWl, cSt] at x0 x1 x2 x3 a0 a1 b0 b1'
  have HS : Aside0 (crossB x a b = crossI (sideI x.f0 x.f1 x.f2 x.f3 a.f0 a.f1) (sideI x.f0 x.f1 x.f2 x.f3 b.f0 b.f1) (sideI a.f0 a.f1 b.f0 b.f1 x.f0 x.f1) (sideI a.f0 a.f1 b.f0 b.f1 x.f2 x.f3)) := ⟨rfl⟩
  have c1 := fun W => rside_c x0 x1 x2 x3 a0 a1 W
  have c2 := fun W => rside_c x0 x1 x2 x3 b0 b1' W
  have c3 := fun W => rside_c a0 a1 b0 b1' x0 x1 W
  have c4 := fun W => rside_c a0 a1 b0 b1' x2 x3 W
  clear x0 x1 x2 x3 a0 a1 b0 b1'
  generalize sideI x.f0 x.f1 x.f2 x.f3 a.f0 a.f1 = s at *
  generalize sideI x.f0 x.f1 x.f2 x.f3 b.f0 b.f1 = t at *
  generalize sideI a.f0 a.f1 b.f0 b.f1 x.f0 x.f1 = u at *
  generalize sideI a.f0 a.f1 b.f0 b.f1 x.f2 x.f3 = v at *
  have C := Aside0.mk (And.intro c1 (And.intro c2 (And.intro c3 c4)))
  clear c1 c2 c3 c4
  go_enter Try.func91, Try.ntmps91
  go_wp2_with fail
  refine wp_abs (fun W => Below w.heap.size w W ∧ (W.cell? ⟨w.heap.size, 0, none⟩ = some (.int .i64 x.f0) ∧ W.cell? ⟨w.heap.size, 1, none⟩ = some (.int .i64 x.f1) ∧ W.cell? ⟨w.heap.size, 2, none⟩ = some (.int .i64 x.f2) ∧ W.cell? ⟨w.heap.size, 3, none⟩ = some (.int .i64 x.f3)) ∧ (W.cell? ⟨w.heap.size + 1, 0, none⟩ = some (.int .i64 a.f0) ∧ W.cell? ⟨w.heap.size + 1, 1, none⟩ = some (.int .i64 a.f1)) ∧ (W.cell? ⟨w.heap.size + 1 + 1, 0, none⟩ = some (.int .i64 b.f0) ∧ W.cell? ⟨w.heap.size + 1 + 1, 1, none⟩ = some (.int .i64 b.f1))) ?_ ?_
  · refine ⟨below_alloc (below_alloc (b1 _ _) _) _, ⟨?_, ?_, ?_, ?_⟩, ⟨?_, ?_⟩, ?_, ?_⟩
    all_goals first | exact cnew (by simp) rfl | exact cb (b1 _ _) (cnew (by simp) rfl) | exact cb (b1 _ _) (cb (b1 _ _) (cnew (by simp) rfl))
  rintro W ⟨hb, ⟨x0, x1, x2, x3⟩, ⟨a0, a1⟩, b0, b1'⟩
  replace x0 := fun d os => cell_regrown x0 d os
  replace x1 := fun d os => cell_regrown x1 d os
  replace x2 := fun d os => cell_regrown x2 d os
  replace x3 := fun d os => cell_regrown x3 d os
  replace a0 := fun d os => cell_regrown a0 d os
  replace a1 := fun d os => cell_regrown a1 d os
  replace b0 := fun d os => cell_regrown b0 d os
  replace b1' := fun d os => cell_regrown b1' d os
  refine wp_region_quiet_below (by kernel_rfl) (by kernel_rfl) ?_
  repeat (go_big_quiet_step (fail))
  go_big_quiet_step (exact Calls.regrown_same (C.out.1 _))
  repeat (go_big_quiet_step (fail))
  go_big_quiet_step (exact Calls.regrown_same (C.out.2.1 _))
  repeat (go_big_quiet_step (fail))
  refine wpQuiet_nil ?_
  intro _ hw'
  obtain ⟨⟨dq, osq⟩, hw''⟩ := hw'
  subst hw''
  have hb2 := bt hb (below_regrown W dq osq)
  replace x0 := x0 dq osq
  replace x1 := x1 dq osq
  replace x2 := x2 dq osq
  replace x3 := x3 dq osq
  replace a0 := a0 dq osq
  replace a1 := a1 dq osq
  replace b0 := b0 dq osq
  replace b1' := b1' dq osq
  generalize grow (redrawn W dq) osq = V at *
  clear hb
  go_wp2_with fail
  replace x0 := fun d os => cell_regrown x0 d os
  replace x1 := fun d os => cell_regrown x1 d os
  replace x2 := fun d os => cell_regrown x2 d os
  replace x3 := fun d os => cell_regrown x3 d os
  replace a0 := fun d os => cell_regrown a0 d os
  replace a1 := fun d os => cell_regrown a1 d os
  replace b0 := fun d os => cell_regrown b0 d os
  replace b1' := fun d os => cell_regrown b1' d os
  refine wp_region_quiet_below (by kernel_rfl) (by kernel_rfl) ?_
  repeat (go_big_quiet_step (fail))
  go_big_quiet_step (exact Calls.regrown_same (C.out.2.2.1 _))
  repeat (go_big_quiet_step (fail))
  go_big_quiet_step (exact Calls.regrown_same (C.out.2.2.2 _))
  repeat (go_big_quiet_step (fail))
  refine wpQuiet_nil ?_
  intro _ hw'
  obtain ⟨⟨dq, osq⟩, hw''⟩ := hw'
  subst hw''
  have HB := Aside0.mk (bt hb2 (below_regrown V dq osq))
  generalize grow (redrawn V dq) osq = V' at *
  clear x0 x1 x2 x3 a0 a1 b0 b1' hb2
  go_wp2_with fail
  refine (sign_c _ _).mono ?_
  rintro e w1 ⟨rfl, rfl⟩
  go_wp2_with fail
  refine (sign_c _ _).mono ?_
  rintro e w1 ⟨rfl, rfl⟩
  have h1 := signI_cases s
  have h2 := signI_cases t
  have h3 := signI_cases u
  have h4 := signI_cases v
  unfold crossI at HS
  generalize signI s = s' at *
  generalize signI t = t' at *
  have hw : wrap64 (s' * t') = s' * t' := by rcases h1 with rfl | rfl | rfl <;> rcases h2 with rfl | rfl | rfl <;> (unfold wrap64; omega)
  clear h1 h2
  cases hq : (s' * t' == -1)
  · rw [hq] at HS
    go_wp2_with fail
    go_ret
    exact ⟨ret_bool (by rw [HS.out]; rfl), HB.out⟩
  · rw [hq] at HS
    go_wp2_with fail
    refine (sign_c _ _).mono ?_
    rintro e w1 ⟨rfl, rfl⟩
    go_wp2_with fail
    refine (sign_c _ _).mono ?_
    rintro e w1 ⟨rfl, rfl⟩
    generalize signI u = u' at *
    generalize signI v = v' at *
    have hw2 : wrap64 (u' * v') = u' * v' := by rcases h3 with rfl | rfl | rfl <;> rcases h4 with rfl | rfl | rfl <;> (unfold wrap64; omega)
    clear h3 h4
    go_wp2_with fail
    go_ret
    exact ⟨ret_bool (by rw [HS.out]; rfl), HB.out⟩

def blkB (x : S55) (a b : S65) : Bool :=
  let s := sideI x.f0 x.f1 x.f2 x.f3 a.f0 a.f1; let t := sideI x.f0 x.f1 x.f2 x.f3 b.f0 b.f1
  if crossB x a b = false then false
  else if s < 0 then inB (a.f2 * t + b.f2 * (-s)) (x.f4 * (-s + t)) (x.f5 * (-s + t))
  else inB (a.f2 * (-t) + b.f2 * s) (x.f4 * (s - t)) (x.f5 * (s - t))
theorem sgn_neg {n : Int} (h : n < 0) : signI n = -1 := by unfold signI; rw [if_neg (by omega), if_pos h]
theorem sgn_pos {n : Int} (h : 0 < n) : signI n = 1 := by unfold signI; rw [if_pos h]
theorem abs_neg {n : Int} (h : n < 0) : absI n = -n := by unfold absI; rw [if_neg (by omega)]
theorem abs_pos {n : Int} (h : 0 < n) : absI n = n := by unfold absI; rw [if_pos (by omega)]
theorem sgn_ways (n : Int) : (decide (0 < n) = false ∧ decide (n < 0) = true ∧ signI n = -1) ∨ (decide (0 < n) = false ∧ decide (n < 0) = false ∧ signI n = 0) ∨ (decide (0 < n) = true ∧ decide (n < 0) = false ∧ signI n = 1) := by
  rcases Int.lt_trichotomy n 0 with h | h | h
  · exact .inl ⟨decide_eq_false (by omega), decide_eq_true h, sgn_neg h⟩
  · exact .inr (.inl ⟨decide_eq_false (by omega), decide_eq_false (by omega), by rw [h]; rfl⟩)
  · exact .inr (.inr ⟨decide_eq_true h, decide_eq_false (by omega), sgn_pos h⟩)
theorem sgn_uv (u v : Int) : (decide (0 < u) && decide (0 < v) || decide (u < 0) && decide (v < 0)) = !(signI u * signI v != 1) := by
  rcases sgn_ways u with ⟨a, b, c⟩ | ⟨a, b, c⟩ | ⟨a, b, c⟩ <;> rcases sgn_ways v with ⟨a', b', c'⟩ | ⟨a', b', c'⟩ | ⟨a', b', c'⟩ <;> rw [a, b, c, a', b', c'] <;> rfl
theorem blk_core (s t u v az bz x4 x5 : Int) :
    (if s = 0 then false else if t = 0 then false else if (decide (0 < s) == decide (0 < t)) = true then false
      else if (decide (0 < u) && decide (0 < v) || decide (u < 0) && decide (v < 0)) = true then false
      else decide (0 ≤ az * absI t + bz * absI s - x4 * (absI s + absI t)) && decide (az * absI t + bz * absI s - x5 * (absI s + absI t) ≤ 0)) =
    (if crossI s t u v = false then false else if s < 0 then inB (az * t + bz * (-s)) (x4 * (-s + t)) (x5 * (-s + t)) else inB (az * (-t) + bz * s) (x4 * (s - t)) (x5 * (s - t))) := by
  rw [sgn_uv]
  unfold crossI
  generalize (signI u * signI v != 1) = q
  rcases Int.lt_trichotomy s 0 with hs | hs | hs
  · rcases Int.lt_trichotomy t 0 with ht | ht | ht
    · rw [sgn_neg hs, sgn_neg ht, if_neg (by omega), if_neg (by omega), if_pos (by simp; omega)]; rfl
    · subst ht; simp [signI]
    · rw [sgn_neg hs, sgn_pos ht, if_neg (by omega), if_neg (by omega), if_neg (by simp; omega), abs_neg hs, abs_pos ht]
      cases q
      · rfl
      · simp only [Bool.not_true, Bool.false_eq_true, if_false, if_pos hs, inB]
        have h1 : (0 ≤ az * t + bz * -s - x4 * (-s + t)) = (x4 * (-s + t) ≤ az * t + bz * -s) := by apply propext; omega
        have h2 : (az * t + bz * -s - x5 * (-s + t) ≤ 0) = (az * t + bz * -s ≤ x5 * (-s + t)) := by apply propext; omega
        simp only [h1, h2]
        rfl
  · subst hs; simp [signI]
  · rcases Int.lt_trichotomy t 0 with ht | ht | ht
    · rw [sgn_pos hs, sgn_neg ht, if_neg (by omega), if_neg (by omega), if_neg (by simp; omega), abs_pos hs, abs_neg ht]
      cases q
      · rfl
      · simp only [Bool.not_true, Bool.false_eq_true, if_false, if_neg (show ¬ s < 0 by omega), inB]
        have h0 : s + -t = s - t := by omega
        rw [h0]
        have h1 : (0 ≤ az * -t + bz * s - x4 * (s - t)) = (x4 * (s - t) ≤ az * -t + bz * s) := by apply propext; omega
        have h2 : (az * -t + bz * s - x5 * (s - t) ≤ 0) = (az * -t + bz * s ≤ x5 * (s - t)) := by apply propext; omega
        simp only [h1, h2]
        rfl
    · subst ht; simp [signI]
    · rw [sgn_pos hs, sgn_pos ht, if_neg (by omega), if_neg (by omega), if_pos (by simp; omega)]; rfl
theorem blk_eq (x : S55) (a b : S65) : blocksB (cWl x) (cSt a) (cSt b) = blkB x a b := blk_core _ _ _ _ _ _ _ _
set_option maxHeartbeats 1000000 in
theorem rblocks_c (x : S55) (a b : S65) (hx : okWl (cWl x)) (ha : okSt (cSt a)) (hb : okSt (cSt b)) (w : World) :
    Calls Try.prog 58 #[.agg #[.int .i64 x.f0, .int .i64 x.f1, .int .i64 x.f2, .int .i64 x.f3, .int .i64 x.f4, .int .i64 x.f5], .agg #[.int .i64 a.f0, .int .i64 a.f1, .int .i64 a.f2, .int .i64 a.f3], .agg #[.int .i64 b.f0, .int .i64 b.f1, .int .i64 b.f2, .int .i64 b.f3]] w
      fun e w' => e = .returned (.bool (blocksB (cWl x) (cSt a) (cSt b))) ∧ Below w.heap.size w w' := by
  have HC := Aside0.mk fun W => crosses_c x a b hx ha hb W
  obtain ⟨x0, x1, x2, x3, x4, x5⟩ := hx
  obtain ⟨a0, a1, a2⟩ := ha
  obtain ⟨b0, b1', b2⟩ := hb
  simp only [cWl, cSt] at x0 x1 x2 x3 a0 a1 b0 b1' x4 x5 a2 b2
  go_enter Try.func58, Try.ntmps58
  go_wp2_with fail
  refine (HC.out _).mono ?_
  rintro e w1 ⟨rfl, hb1⟩
  have HE : Aside0 (blocksB (cWl x) (cSt a) (cSt b) = blkB x a b) := ⟨blk_eq x a b⟩
  cases hq : crossB x a b
  · have HE' : Aside0 (blocksB (cWl x) (cSt a) (cSt b) = false) := ⟨by rw [HE.out]; unfold blkB; simp [hq]⟩
    clear hq
    have HB := Aside0.mk (bt (below_alloc (below_alloc (b1 _ _) _) _) hb1)
    clear hb1
    go_wp2_with fail
    go_ret
    exact ⟨ret_bool HE'.out.symm, HB.out⟩
  · have s_bd := sideI_bd x0 x1 x2 x3 a0 a1
    have t_bd := sideI_bd x0 x1 x2 x3 b0 b1'
    have HE' : Aside0 (blocksB (cWl x) (cSt a) (cSt b) = if sideI x.f0 x.f1 x.f2 x.f3 a.f0 a.f1 < 0 then inB (a.f2 * sideI x.f0 x.f1 x.f2 x.f3 b.f0 b.f1 + b.f2 * (-sideI x.f0 x.f1 x.f2 x.f3 a.f0 a.f1)) (x.f4 * (-sideI x.f0 x.f1 x.f2 x.f3 a.f0 a.f1 + sideI x.f0 x.f1 x.f2 x.f3 b.f0 b.f1)) (x.f5 * (-sideI x.f0 x.f1 x.f2 x.f3 a.f0 a.f1 + sideI x.f0 x.f1 x.f2 x.f3 b.f0 b.f1))
      else inB (a.f2 * (-sideI x.f0 x.f1 x.f2 x.f3 b.f0 b.f1) + b.f2 * sideI x.f0 x.f1 x.f2 x.f3 a.f0 a.f1) (x.f4 * (sideI x.f0 x.f1 x.f2 x.f3 a.f0 a.f1 - sideI x.f0 x.f1 x.f2 x.f3 b.f0 b.f1)) (x.f5 * (sideI x.f0 x.f1 x.f2 x.f3 a.f0 a.f1 - sideI x.f0 x.f1 x.f2 x.f3 b.f0 b.f1))) := ⟨by rw [HE.out]; unfold blkB; simp [hq]⟩
    clear hq HE
    have c1 := fun W => rside_c x0 x1 x2 x3 a0 a1 W
    have c2 := fun W => rside_c x0 x1 x2 x3 b0 b1' W
    generalize sideI x.f0 x.f1 x.f2 x.f3 a.f0 a.f1 = s at *
    generalize sideI x.f0 x.f1 x.f2 x.f3 b.f0 b.f1 = t at *
    have C := Aside0.mk (And.intro c1 c2)
    clear c1 c2 x0 x1 x2 x3 a0 a1 b0 b1' HC
    have hbx := fun i v (h : (#[.int .i64 x.f0, .int .i64 x.f1, .int .i64 x.f2, .int .i64 x.f3, .int .i64 x.f4, .int .i64 x.f5] : Array Value)[i]? = some v) => cb hb1 (cb (b1 _ _) (cb (b1 _ _) (cnew (w := w) (t := 55) (b := w.heap.size) rfl h)))
    have hba := fun i v (h : (#[.int .i64 a.f0, .int .i64 a.f1, .int .i64 a.f2, .int .i64 a.f3] : Array Value)[i]? = some v) => cb hb1 (cb (b1 _ _) (cnew (b := w.heap.size + 1) (t := 65) (by simp) h))
    have hbb := fun i v (h : (#[.int .i64 b.f0, .int .i64 b.f1, .int .i64 b.f2, .int .i64 b.f3] : Array Value)[i]? = some v) => cb hb1 (cnew (b := w.heap.size + 1 + 1) (t := 65) (by simp) h)
    have x0 := hbx 0 _ rfl
    have x1 := hbx 1 _ rfl
    have x2 := hbx 2 _ rfl
    have x3 := hbx 3 _ rfl
    have y4 := hbx 4 _ rfl
    have y5 := hbx 5 _ rfl
    have a0 := hba 0 _ rfl
    have a1 := hba 1 _ rfl
    have az := hba 2 _ rfl
    have b0 := hbb 0 _ rfl
    have b1' := hbb 1 _ rfl
    have bz := hbb 2 _ rfl
    have hb := bt (below_alloc (below_alloc (b1 w _) _) _) hb1
    clear hbx hba hbb hb1
    go_wp2_with fail
    replace x0 := fun d os => cell_regrown x0 d os
    replace x1 := fun d os => cell_regrown x1 d os
    replace x2 := fun d os => cell_regrown x2 d os
    replace x3 := fun d os => cell_regrown x3 d os
    replace y4 := fun d os => cell_regrown y4 d os
    replace y5 := fun d os => cell_regrown y5 d os
    replace a0 := fun d os => cell_regrown a0 d os
    replace a1 := fun d os => cell_regrown a1 d os
    replace az := fun d os => cell_regrown az d os
    replace b0 := fun d os => cell_regrown b0 d os
    replace b1' := fun d os => cell_regrown b1' d os
    replace bz := fun d os => cell_regrown bz d os
    refine wp_region_quiet_below (by kernel_rfl) (by kernel_rfl) ?_
    repeat (go_big_quiet_step (fail))
    go_big_quiet_step (exact Calls.regrown_same (C.out.1 _))
    repeat (go_big_quiet_step (fail))
    go_big_quiet_step (exact Calls.regrown_same (C.out.2 _))
    repeat (go_big_quiet_step (fail))
    refine wpQuiet_nil ?_
    intro _ hw'
    obtain ⟨⟨dq, osq⟩, hw''⟩ := hw'
    subst hw''
    have HB := Aside0.mk (bt hb (below_regrown w1 dq osq))
    replace y4 := y4 dq osq
    replace y5 := y5 dq osq
    replace az := az dq osq
    replace bz := bz dq osq
    generalize grow (redrawn w1 dq) osq = V at *
    clear x0 x1 x2 x3 a0 a1 b0 b1' hb C
    have p1 := mul_bd (a := a.f2) (b := t) 1000 20000 (by omega) (by omega) (by omega) (by omega)
    have p2 := mul_bd (a := b.f2) (b := s) 1000 20000 (by omega) (by omega) (by omega) (by omega)
    have p3 := mul_bd (a := a.f2) (b := -t) 1000 20000 (by omega) (by omega) (by omega) (by omega)
    have p4 := mul_bd (a := b.f2) (b := -s) 1000 20000 (by omega) (by omega) (by omega) (by omega)
    have p5 := mul_bd (a := x.f4) (b := s - t) 1000 40000 (by omega) (by omega) (by omega) (by omega)
    have p6 := mul_bd (a := x.f5) (b := s - t) 1000 40000 (by omega) (by omega) (by omega) (by omega)
    have p7 := mul_bd (a := x.f4) (b := -s + t) 1000 40000 (by omega) (by omega) (by omega) (by omega)
    have p8 := mul_bd (a := x.f5) (b := -s + t) 1000 40000 (by omega) (by omega) (by omega) (by omega)
    have e3 := wr64 (n := a.f2 * -t) (by omega) (by omega)
    have e2 := wr64 (n := b.f2 * s) (by omega) (by omega)
    have e1 := wr64 (n := a.f2 * t) (by omega) (by omega)
    have e4 := wr64 (n := b.f2 * -s) (by omega) (by omega)
    have e5 := wr64 (n := x.f4 * (s - t)) (by omega) (by omega)
    have e6 := wr64 (n := x.f5 * (s - t)) (by omega) (by omega)
    have e7 := wr64 (n := x.f4 * (-s + t)) (by omega) (by omega)
    have e8 := wr64 (n := x.f5 * (-s + t)) (by omega) (by omega)
    have e9 := wr64 (n := a.f2 * -t + b.f2 * s) (by omega) (by omega)
    have e10 := wr64 (n := a.f2 * t + b.f2 * -s) (by omega) (by omega)
    have ee : -s - -t = -s + t := by omega
    clear p1 p2 p3 p4 p5 p6 p7 p8
    by_cases hs : s < 0
    · rw [if_pos hs] at HE'
      go_wp2_with fail
      refine (in_c _ _ _ _).mono ?_
      rintro e w2 ⟨rfl, rfl⟩
      have H := HE'.out.symm
      clear HE'
      generalize inB _ _ _ = r at *
      have HE := Aside0.mk H
      clear H
      go_wp2_with fail
      go_ret
      exact ⟨ret_bool HE.out, HB.out⟩
    · rw [if_neg hs] at HE'
      go_wp2_with fail
      refine (in_c _ _ _ _).mono ?_
      rintro e w2 ⟨rfl, rfl⟩
      have H := HE'.out.symm
      clear HE'
      generalize inB _ _ _ = r at *
      have HE := Aside0.mk H
      clear H
      go_wp2_with fail
      go_ret
      exact ⟨ret_bool HE.out, HB.out⟩
end Go.Proofs.Ytkbdphjnpieceaa.G
