/- Contracts: Station.valid, Wall.valid, Wall.ridge, Sun.valid, Land.cloud, Land.apart. -/
import Derived.Test.YtkbdphjnpieceaaH1
import Derived.ChangeKeysEq
import Derived.Laws.StructEq
import Derived.Shelf.Abstract
namespace Go.Proofs.Ytkbdphjnpieceaa.G
open Go.RowKit Go.Proofs.YtkbdphjnpieceaaW.PrintWords Go.Proofs.YtkbdphjnpieceaaW.PrintLast Go.Proofs.YtkbdphjnpieceaaW.PrintMore
set_option linter.unusedVariables false
set_option linter.unusedSimpArgs false

theorem eq_place (a b c d : Int) (w : World) : (Op.equalIn 10000 130 (.agg #[.int .i64 a, .int .i64 b]) (.agg #[.int .i64 c, .int .i64 d])).run Try.prog w = .ok (a == c && b == d) w := by
  obtain ⟨i0, hi, _⟩ := Option.map_eq_some_iff.1 info3
  rw [run_equalIn_array (w := w) 9999 (e := 3) (n := 2) _ _ Try.underlying130 hi]
  have hc : Try.prog.cellsOf 3 = 1 := by kernel_rfl
  rw [hc]
  cases h : a == c
  · simp [Op.eqItems, List.range_succ, part, go_sem, Try.underlying3, h]
  · cases h2 : b == d
    all_goals simp [Op.eqItems, List.range_succ, part, go_sem, Try.underlying3, h, h2]
    all_goals simp at h2
    all_goals simp [h2]

def onB (x y : Int) : Bool := inB x 0 100 && inB y 0 100
def stOK (s : S85) : Bool := onB s.f0 s.f1 && inB s.f2 0 1000 && inB s.f3 1 2
def wallOK (w : S86) : Bool := onB w.f0 w.f1 && onB w.f2 w.f3 && !(w.f0 == w.f2 && w.f1 == w.f3) && inB w.f4 0 w.f5 && decide (w.f5 ≤ 1000)
def ridgeOK (w : S86) : Bool := wallOK w && w.f4 == 0
def sunOK (s : S99) : Bool := inB s.f0 (-100) 100 && inB s.f1 (-100) 100 && inB s.f2 (-100) 100
def cloudOK (n : Int) (c : S88) : Bool := wallOK c.f0 && inB c.f1 0 c.f2 && decide (c.f2 < n)

theorem on_any (x y : Int) (w : World) :
    Calls Try.prog 102 #[.agg #[.int .i64 x, .int .i64 y]] w fun e w' => e = .returned (.bool (onB x y)) ∧ Below w.heap.size w w' := on_c x y w

theorem stvalid_c (x y z m : Int) (w : World) :
    Calls Try.prog 74 #[.agg #[.int .i64 x, .int .i64 y, .int .i64 z, .int .i64 m]] w fun e w' => e = .returned (.bool (onB x y && inB z 0 1000 && inB m 1 2)) ∧ Below w.heap.size w w' := by
  have hb0 := b1 w (.cells #[.int .i64 x, .int .i64 y, .int .i64 z, .int .i64 m] 85)
  have d2 : (w.alloc (.cells #[.int .i64 x, .int .i64 y, .int .i64 z, .int .i64 m] 85)).cell? ⟨w.heap.size, 2, none⟩ = some (.int .i64 z) := by simp
  have d3 : (w.alloc (.cells #[.int .i64 x, .int .i64 y, .int .i64 z, .int .i64 m] 85)).cell? ⟨w.heap.size, 3, none⟩ = some (.int .i64 m) := by simp
  have c1 := fun W => on_any x y W
  have c2 := fun W => within_c z 0 1000 W
  have c3 := fun W => within_c m 1 2 W
  cases h1 : onB x y
  · rw [h1] at c1
    clear h1
    go_enter Try.func74, Try.ntmps74
    go_wp2_with fail
    refine (place_c _ _ _ _ _).mono ?_
    rintro e w1 ⟨rfl, hb1⟩
    go_wp2_with fail
    refine (c1 _).mono ?_
    rintro e w2 ⟨rfl, hb2⟩
    go_wp2_with fail
    go_ret
    exact ⟨rfl, bt (bt hb0 hb1) hb2⟩
  · cases h2 : inB z 0 1000
    · rw [h1] at c1
      rw [h2] at c2
      clear h1 h2
      go_enter Try.func74, Try.ntmps74
      go_wp2_with fail
      refine (place_c _ _ _ _ _).mono ?_
      rintro e w1 ⟨rfl, hb1⟩
      go_wp2_with fail
      refine (c1 _).mono ?_
      rintro e w2 ⟨rfl, hb2⟩
      have e2 := cb (bt hb1 hb2) d2
      go_wp2_with fail
      refine (c2 _).mono ?_
      rintro e w3 ⟨rfl, rfl⟩
      go_wp2_with fail
      go_ret
      exact ⟨rfl, bt (bt hb0 hb1) hb2⟩
    · cases h3 : inB m 1 2
      all_goals
        rw [h1] at c1
        rw [h2] at c2
        rw [h3] at c3
        clear h1 h2 h3
        go_enter Try.func74, Try.ntmps74
        go_wp2_with fail
        refine (place_c _ _ _ _ _).mono ?_
        rintro e w1 ⟨rfl, hb1⟩
        go_wp2_with fail
        refine (c1 _).mono ?_
        rintro e w2 ⟨rfl, hb2⟩
        have e2 := cb (bt hb1 hb2) d2
        have e3 := cb (bt hb1 hb2) d3
        go_wp2_with fail
        refine (c2 _).mono ?_
        rintro e w3 ⟨rfl, rfl⟩
        go_wp2_with fail
        refine (c3 _).mono ?_
        rintro e w3 ⟨rfl, rfl⟩
        go_wp2_with fail
        go_ret
        exact ⟨rfl, bt (bt hb0 hb1) hb2⟩

theorem wallvalid_c (x1 y1 x2 y2 b t : Int) (w : World) :
    Calls Try.prog 95 #[.agg #[.int .i64 x1, .int .i64 y1, .int .i64 x2, .int .i64 y2, .int .i64 b, .int .i64 t]] w fun e w' => e = .returned (.bool (onB x1 y1 && onB x2 y2 && !(x1 == x2 && y1 == y2) && inB b 0 t && decide (t ≤ 1000))) ∧ Below w.heap.size w w' := by
  have hb0 := b1 w (.cells #[.int .i64 x1, .int .i64 y1, .int .i64 x2, .int .i64 y2, .int .i64 b, .int .i64 t] 86)
  have d4 : (w.alloc (.cells #[.int .i64 x1, .int .i64 y1, .int .i64 x2, .int .i64 y2, .int .i64 b, .int .i64 t] 86)).cell? ⟨w.heap.size, 4, none⟩ = some (.int .i64 b) := by simp
  have d5 : (w.alloc (.cells #[.int .i64 x1, .int .i64 y1, .int .i64 x2, .int .i64 y2, .int .i64 b, .int .i64 t] 86)).cell? ⟨w.heap.size, 5, none⟩ = some (.int .i64 t) := by simp
  have c1 := fun W => on_any x1 y1 W
  have c2 := fun W => on_any x2 y2 W
  have c3 := fun W => within_c b 0 t W
  generalize onB x1 y1 = q1 at c1 ⊢
  generalize onB x2 y2 = q2 at c2 ⊢
  generalize inB b 0 t = q3 at c3 ⊢
  go_enter Try.func95, Try.ntmps95
  go_wp2_with fail
  refine (ends_c _ _ _ _ _ _ _).mono ?_
  rintro e w1 ⟨rfl, hb1⟩
  go_wp2_with fail
  refine (c1 _).mono ?_
  rintro e w2 ⟨rfl, hb2⟩
  have hw := bt hb0 hb1
  have e4 := cb hb1 d4
  have e5 := cb hb1 d5
  have f0 : ((w1.alloc (.cells #[.int .i64 x1, .int .i64 y1] 130)).alloc (.cells #[.int .i64 x2, .int .i64 y2] 130)).cell? ⟨w1.heap.size, 0, none⟩ = some (.int .i64 x1) := by simp
  have f1 : ((w1.alloc (.cells #[.int .i64 x1, .int .i64 y1] 130)).alloc (.cells #[.int .i64 x2, .int .i64 y2] 130)).cell? ⟨w1.heap.size, 1, none⟩ = some (.int .i64 y1) := by simp
  have f2 : ((w1.alloc (.cells #[.int .i64 x1, .int .i64 y1] 130)).alloc (.cells #[.int .i64 x2, .int .i64 y2] 130)).cell? ⟨w1.heap.size + 1, 0, none⟩ = some (.int .i64 x2) := by simp
  have f3 : ((w1.alloc (.cells #[.int .i64 x1, .int .i64 y1] 130)).alloc (.cells #[.int .i64 x2, .int .i64 y2] 130)).cell? ⟨w1.heap.size + 1, 1, none⟩ = some (.int .i64 y2) := by simp
  have f4 := cb (below_alloc (b1 w1 (.cells #[.int .i64 x1, .int .i64 y1] 130)) (.cells #[.int .i64 x2, .int .i64 y2] 130)) e4
  have f5 := cb (below_alloc (b1 w1 (.cells #[.int .i64 x1, .int .i64 y1] 130)) (.cells #[.int .i64 x2, .int .i64 y2] 130)) e5
  have hw2 := below_alloc (below_alloc hw (.cells #[.int .i64 x1, .int .i64 y1] 130)) (.cells #[.int .i64 x2, .int .i64 y2] 130)
  replace f0 := cb hb2 f0
  replace f1 := cb hb2 f1
  replace f2 := cb hb2 f2
  replace f3 := cb hb2 f3
  replace f4 := cb hb2 f4
  replace f5 := cb hb2 f5
  replace hw2 := bt hw2 hb2
  clear hb2 hb1 hb0 d4 d5 e4 e5 hw c1
  cases q1
  · go_wp2_with fail
    go_ret
    exact ⟨rfl, hw2⟩
  go_wp2_with fail
  refine (c2 _).mono ?_
  rintro e w3 ⟨rfl, hb3⟩
  replace f0 := cb hb3 f0
  replace f1 := cb hb3 f1
  replace f2 := cb hb3 f2
  replace f3 := cb hb3 f3
  replace f4 := cb hb3 f4
  replace f5 := cb hb3 f5
  replace hw2 := bt hw2 hb3
  clear hb3 c2
  cases q2
  · go_wp2_with fail
    go_ret
    exact ⟨rfl, hw2⟩
  have eqp := eq_place x1 y1 x2 y2
  cases hq4 : (x1 == x2 && y1 == y2)
  · rw [hq4] at eqp
    have HQ := Aside0.mk hq4
    clear hq4
    go_wp2_with fail
    refine (c3 _).mono ?_
    rintro e w4 ⟨rfl, rfl⟩
    clear c3
    cases q3
    · go_wp2_with fail
      go_ret
      exact ⟨ret_bool (by rw [HQ.out]; rfl), hw2⟩
    · go_wp2_with fail
      go_ret
      exact ⟨ret_bool (by rw [HQ.out]; rfl), hw2⟩
  · rw [hq4] at eqp
    have HQ := Aside0.mk hq4
    clear hq4
    go_wp2_with fail
    go_ret
    exact ⟨ret_bool (by rw [HQ.out]; rfl), hw2⟩

theorem ridge_c (x : S86) (w : World) :
    Calls Try.prog 76 #[.agg #[.int .i64 x.f0, .int .i64 x.f1, .int .i64 x.f2, .int .i64 x.f3, .int .i64 x.f4, .int .i64 x.f5]] w fun e w' => e = .returned (.bool (ridgeOK x)) ∧ Below w.heap.size w w' := by
  have hb0 := b1 w (.cells #[.int .i64 x.f0, .int .i64 x.f1, .int .i64 x.f2, .int .i64 x.f3, .int .i64 x.f4, .int .i64 x.f5] 86)
  have d4 : (w.alloc (.cells #[.int .i64 x.f0, .int .i64 x.f1, .int .i64 x.f2, .int .i64 x.f3, .int .i64 x.f4, .int .i64 x.f5] 86)).cell? ⟨w.heap.size, 4, none⟩ = some (.int .i64 x.f4) := by simp
  have c1 := fun W => wallvalid_c x.f0 x.f1 x.f2 x.f3 x.f4 x.f5 W
  change ∀ W, Calls _ _ _ _ (fun e w' => e = .returned (.bool (wallOK x)) ∧ _) at c1
  unfold ridgeOK
  generalize wallOK x = q1 at c1 ⊢
  go_enter Try.func76, Try.ntmps76
  go_wp2_with fail
  refine (c1 _).mono ?_
  rintro e w1 ⟨rfl, hb1⟩
  have e4 := cb hb1 d4
  have hw := bt hb0 hb1
  clear c1 d4 hb0 hb1
  cases q1
  · go_wp2_with fail
    go_ret
    exact ⟨rfl, hw⟩
  · go_wp2_with fail
    go_ret
    exact ⟨rfl, hw⟩

theorem sunlit_c (n : Int) (w : World) : Calls Try.prog 106 #[.int .i64 n] w fun e w' => e = .returned (.bool (inB n (-100) 100)) ∧ Below w.heap.size w w' := by
  have c1 := within_c n (-100) 100 w
  go_enter Try.func106, Try.ntmps106
  go_wp2_with (go_at_call 79; refine c1.mono ?_; rintro e w' ⟨rfl, rfl⟩)
  go_ret
  exact ⟨rfl, Below.refl _ _⟩

/-- Whole numbers that lie in a block read as a list. -/
theorem C_lit {w : World} {g : Nat} {xs : List Int} (hl : xs.length ≤ 9223372036854775807) (h : ∀ j : Nat, j < xs.length → w.cell? ⟨g, j, none⟩ = some (.int .i64 (xs.getD j 0))) : Kd.C (Kd.int .i64) w (some ⟨g, 0, none⟩) xs.length xs :=
  Kd.C_of_reads (enc := Value.int .i64) (d := (0 : Int)) (h1 := fun _ => rfl) ⟨rfl, hl, fun _ => ⟨_, rfl, fun j hj => by rw [add_plain]; exact h j hj⟩⟩

theorem sun_c (x : S99) (w : World) :
    Calls Try.prog 78 #[.agg #[.int .i64 x.f0, .int .i64 x.f1, .int .i64 x.f2]] w fun e w' => e = .returned (.bool (sunOK x)) ∧ Below w.heap.size w w' := by
  have hb := below_alloc (b1 w (.cells #[.int .i64 x.f0, .int .i64 x.f1, .int .i64 x.f2] 99)) (.cells #[.int .i64 x.f0, .int .i64 x.f1, .int .i64 x.f2] 3)
  have hC : Kd.C (Kd.int .i64) ((w.alloc (.cells #[.int .i64 x.f0, .int .i64 x.f1, .int .i64 x.f2] 99)).alloc (.cells #[.int .i64 x.f0, .int .i64 x.f1, .int .i64 x.f2] 3)) (some ⟨w.heap.size + 1, 0, none⟩) 3 [x.f0, x.f1, x.f2] := by
    refine C_lit (xs := [x.f0, x.f1, x.f2]) (by simp) fun j hj => ?_
    match j, hj with
    | 0, _ => simp
    | 1, _ => simp
    | 2, _ => simp
  have H := Aside0.mk (all3 106 #[] #[] (enters_of Try.func106 (by kernel_rfl) rfl) (fun n => inB n (-100) 100) (some ⟨w.heap.size + 1, 0, none⟩) 3 [x.f0, x.f1, x.f2] _ hC (by simp) (fun W y _ _ => sunlit_c y W))
  clear hC
  go_enter Try.func78, Try.ntmps78
  go_wp2_with fail
  refine H.out.mono ?_
  rintro e w' ⟨rfl, hb'⟩
  go_wp2_with fail
  go_ret
  exact ⟨ret_bool (by simp [sunOK, Bool.and_assoc]), bt hb hb'⟩

theorem cloud_c (x : S88) (A0 A1 A2 A3 : Option Addr) (n0 n1 n2 n3 c0 c1 c2 c3 : Nat) (w : World) :
    Calls Try.prog 68 #[.agg #[.slice A0 n0 c0, .slice A1 n1 c1, .slice A2 n2 c2, .slice A3 n3 c3], .agg #[.int .i64 x.f0.f0, .int .i64 x.f0.f1, .int .i64 x.f0.f2, .int .i64 x.f0.f3, .int .i64 x.f0.f4, .int .i64 x.f0.f5, .int .i64 x.f1, .int .i64 x.f2]] w fun e w' => e = .returned (.bool (cloudOK n3 x)) ∧ Below w.heap.size w w' := by
  have hb0 := below_alloc (b1 w (.cells #[.slice A0 n0 c0, .slice A1 n1 c1, .slice A2 n2 c2, .slice A3 n3 c3] 39)) (.cells #[.int .i64 x.f0.f0, .int .i64 x.f0.f1, .int .i64 x.f0.f2, .int .i64 x.f0.f3, .int .i64 x.f0.f4, .int .i64 x.f0.f5, .int .i64 x.f1, .int .i64 x.f2] 88)
  obtain ⟨W, hW⟩ : ∃ W, W = (w.alloc (.cells #[.slice A0 n0 c0, .slice A1 n1 c1, .slice A2 n2 c2, .slice A3 n3 c3] 39)).alloc (.cells #[.int .i64 x.f0.f0, .int .i64 x.f0.f1, .int .i64 x.f0.f2, .int .i64 x.f0.f3, .int .i64 x.f0.f4, .int .i64 x.f0.f5, .int .i64 x.f1, .int .i64 x.f2] 88) := ⟨_, rfl⟩
  have d6 : W.cell? ⟨w.heap.size + 1, 6, none⟩ = some (.int .i64 x.f1) := by rw [hW]; simp
  have d7 : W.cell? ⟨w.heap.size + 1, 7, none⟩ = some (.int .i64 x.f2) := by rw [hW]; simp
  have d3 : W.cell? ⟨w.heap.size, 3, none⟩ = some (.slice A3 n3 c3) := by rw [hW]; simp
  rw [← hW] at hb0
  have HW := Aside0.mk hW
  clear hW
  have q1 := fun W => wallvalid_c x.f0.f0 x.f0.f1 x.f0.f2 x.f0.f3 x.f0.f4 x.f0.f5 W
  have q2 := fun W => within_c x.f1 0 x.f2 W
  change ∀ W, Calls _ _ _ _ (fun e w' => e = .returned (.bool (wallOK x.f0)) ∧ _) at q1
  unfold cloudOK
  generalize wallOK x.f0 = r1 at q1 ⊢
  generalize inB x.f1 0 x.f2 = r2 at q2 ⊢
  go_enter Try.func68, Try.ntmps68
  go_wp2_with fail
  rw [← HW.out]
  refine (q1 _).mono ?_
  rintro e w1 ⟨rfl, hb1⟩
  have e3 := cb hb1 d3
  have e6 := cb hb1 d6
  have e7 := cb hb1 d7
  have hw := bt hb0 hb1
  clear q1 d3 d6 d7 hb0 hb1 HW
  cases r1
  · go_wp2_with fail
    go_ret
    exact ⟨rfl, hw⟩
  go_wp2_with fail
  refine (q2 _).mono ?_
  rintro e w2 ⟨rfl, rfl⟩
  cases r2
  · go_wp2_with fail
    go_ret
    exact ⟨rfl, hw⟩
  · go_wp2_with fail
    go_ret
    exact ⟨rfl, hw⟩
end Go.Proofs.Ytkbdphjnpieceaa.G
