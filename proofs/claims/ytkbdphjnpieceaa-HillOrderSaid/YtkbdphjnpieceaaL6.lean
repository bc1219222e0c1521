/- What the program's answers are, way by way: Why, Walls, Hours, Always, Stick. -/
import Derived.Test.YtkbdphjnpieceaaP1
namespace Go.Proofs.Ytkbdphjnpieceaa.G
open Go.RowKit Go.Proofs.YtkbdphjnpieceaaW.PrintWords Go.Proofs.YtkbdphjnpieceaaW.PrintLast Go.Proofs.YtkbdphjnpieceaaW.PrintMore
set_option linter.unusedVariables false
set_option linter.unusedSimpArgs false
theorem rwalls_rd (R : Rv) (f t k h : Int) (w : World) (hI : R.In w) (hL : R.lv.Ok) (hA : R.lv.At f t k h) :
    Calls Try.prog 43 #[.agg R.cells, .int .i64 f, .int .i64 t, .int .i64 k, .int .i64 h] w fun e w' => ∃ A c B d, e = .returned (.tuple #[.slice A (ridgesL R.lv f t).length c, .slice B (cloudsL R.lv f t k h).length d]) ∧ Kd.C (Kd.int .i64) w' A (ridgesL R.lv f t).length (ridgesL R.lv f t) ∧ Kd.C (Kd.int .i64) w' B (cloudsL R.lv f t k h).length (cloudsL R.lv f t k h) ∧ Below w.heap.size w w' := by
  refine (rwalls_c R f t k h w hI hL hA).mono fun e w' ⟨v, u, he, hR, hS, hb⟩ => ?_
  obtain ⟨A, c, rfl, hC⟩ := R_read2 hR rfl
  obtain ⟨B, d, rfl, hD⟩ := R_read2 hS rfl
  exact ⟨A, c, B, d, he, hC, hD, hb⟩
section
variable {L : Lv} {f t k h : Int}
theorem why_bad (h0 : L.check ≠ 0) : whyE L f t k h = (0, 0, L.check) := by unfold whyE; rw [if_pos h0]
theorem why_out (h0 : L.check = 0) (h1 : L.ask f t k h ≠ 0) : whyE L f t k h = (0, 0, L.ask f t k h) := by unfold whyE; rw [if_neg (by simp [h0]), if_pos h1]
theorem why_ok (h0 : L.check = 0) (h1 : L.ask f t k h = 0) : whyE L f t k h = ((whyF L f t k h).1, (whyF L f t k h).2, 0) := by unfold whyE; rw [if_neg (by simp [h0]), if_neg (by simp [h1])]
theorem walls_bad (h0 : L.check ≠ 0) : wallsE L f t k h = ([], [], L.check) := by unfold wallsE; rw [if_pos h0]
theorem walls_out (h0 : L.check = 0) (h1 : L.ask f t k h ≠ 0) : wallsE L f t k h = ([], [], L.ask f t k h) := by unfold wallsE; rw [if_neg (by simp [h0]), if_pos h1]
theorem walls_ok (h0 : L.check = 0) (h1 : L.ask f t k h = 0) : wallsE L f t k h = (ridgesL L f t, cloudsL L f t k h, 0) := by unfold wallsE; rw [if_neg (by simp [h0]), if_neg (by simp [h1])]
theorem hours_bad (h0 : L.check ≠ 0) : hoursE L f t k = ([], L.check) := by unfold hoursE; rw [if_pos h0]
theorem hours_out (h0 : L.check = 0) (h1 : L.ask f t k 0 ≠ 0) : hoursE L f t k = ([], L.ask f t k 0) := by unfold hoursE; rw [if_neg (by simp [h0]), if_pos h1]
theorem hours_ok (h0 : L.check = 0) (h1 : L.ask f t k 0 = 0) : hoursE L f t k = (filK (fun h => canF L f t k h) L.su.length, 0) := by unfold hoursE; rw [if_neg (by simp [h0]), if_neg (by simp [h1])]
theorem always_bad (h0 : L.check ≠ 0) : alwaysE L f t = ([], L.check) := by unfold alwaysE; rw [if_pos h0]
theorem always_out (h0 : L.check = 0) (h1 : L.ask f t 0 0 ≠ 0) : alwaysE L f t = ([], L.ask f t 0 0) := by unfold alwaysE; rw [if_neg (by simp [h0]), if_pos h1]
theorem always_ok (h0 : L.check = 0) (h1 : L.ask f t 0 0 = 0) : alwaysE L f t = (filK (fun h => decide (stickF L f t h = L.ca.length)) L.su.length, 0) := by unfold alwaysE; rw [if_neg (by simp [h0]), if_neg (by simp [h1])]
theorem stick_bad (h0 : L.check ≠ 0) : stickE L f t h = (0, L.check) := by unfold stickE; rw [if_pos h0]
theorem stick_out (h0 : L.check = 0) (h1 : L.ask f t 0 h ≠ 0) : stickE L f t h = (0, L.ask f t 0 h) := by unfold stickE; rw [if_neg (by simp [h0]), if_pos h1]
theorem stick_none (h0 : L.check = 0) (h1 : L.ask f t 0 h = 0) (h2 : stickF L f t h = L.ca.length) : stickE L f t h = (0, 7) := by unfold stickE; rw [if_neg (by simp [h0]), if_neg (by simp [h1]), if_pos h2]
theorem stick_ok (h0 : L.check = 0) (h1 : L.ask f t 0 h = 0) (h2 : ¬ stickF L f t h = L.ca.length) : stickE L f t h = (stickF L f t h, 0) := by unfold stickE; rw [if_neg (by simp [h0]), if_neg (by simp [h1]), if_neg h2]
end
end Go.Proofs.Ytkbdphjnpieceaa.G
