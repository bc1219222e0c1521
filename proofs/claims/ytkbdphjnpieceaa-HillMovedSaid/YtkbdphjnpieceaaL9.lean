/- What ready tells; answers by day and by night. -/
import Derived.Test.YtkbdphjnpieceaaL8
namespace Go.Proofs.Ytkbdphjnpieceaa.G
open Go.RowKit Go.Proofs.YtkbdphjnpieceaaW.PrintWords Go.Proofs.YtkbdphjnpieceaaW.PrintLast Go.Proofs.YtkbdphjnpieceaaW.PrintMore
set_option linter.unusedVariables false
set_option linter.unusedSimpArgs false

theorem side_neg (a0 a1 b0 b1 x0 x1 : Int) : sideI b0 b1 a0 a1 x0 x1 = -sideI a0 a1 b0 b1 x0 x1 := by
  unfold sideI
  simp only [Int.sub_mul, Int.mul_sub]
  have h1 := Int.mul_comm a0 b1
  have h2 := Int.mul_comm b0 b1
  have h3 := Int.mul_comm a1 b0
  have h4 := Int.mul_comm a0 a1
  omega
theorem uv_neg (u v : Int) : (decide (0 < -u) && decide (0 < -v) || decide (-u < 0) && decide (-v < 0)) = (decide (0 < u) && decide (0 < v) || decide (u < 0) && decide (v < 0)) := by
  have h1 : (0 < -u) = (u < 0) := by apply propext; omega
  have h2 : (0 < -v) = (v < 0) := by apply propext; omega
  have h3 : (-u < 0) = (0 < u) := by apply propext; omega
  have h4 : (-v < 0) = (0 < v) := by apply propext; omega
  simp only [h1, h2, h3, h4]
  exact Bool.or_comm _ _
theorem mirrors_two (a b : S85) (s : S99) : (mirrorsF a b s = 1 ∨ mirrorsF a b s = 2) ∧ (mirrorsF b a s = 1 ∨ mirrorsF b a s = 2) ∧ mirrorsF a b s + mirrorsF b a s ≤ 3 := by
  unfold mirrorsF
  have e : s.f0 * (a.f0 - b.f0) + s.f1 * (a.f1 - b.f1) = -(s.f0 * (b.f0 - a.f0) + s.f1 * (b.f1 - a.f1)) := by
    simp only [Int.mul_sub]
    omega
  rw [e]
  generalize s.f0 * (b.f0 - a.f0) + s.f1 * (b.f1 - a.f1) = d
  by_cases h1 : d < 0
  · rw [if_pos h1, if_neg (show ¬ -d < 0 by omega)]; omega
  · rw [if_neg h1]
    by_cases h2 : -d < 0
    · rw [if_pos h2]; omega
    · rw [if_neg h2]; omega
end Go.Proofs.Ytkbdphjnpieceaa.G
namespace Go.Proofs.Ytkbdphjnpieceaa.G
open Go.RowKit Go.Proofs.YtkbdphjnpieceaaW.PrintWords Go.Proofs.YtkbdphjnpieceaaW.PrintLast Go.Proofs.YtkbdphjnpieceaaW.PrintMore
set_option linter.unusedVariables false
set_option linter.unusedSimpArgs false
/-- What ready tells. -/
theorem rdy_of {R : Rv} (h : R.rdy = true) : R.Few ∧ R.lv.check = 0 ∧ 2 ≤ R.st.length ∧ R.st.length ≤ 6 ∧ R.ri.length ≤ 6 ∧ 1 ≤ R.ca.length ∧ R.ca.length ≤ 4 ∧ 1 ≤ R.su.length ∧ R.su.length ≤ 12 := by
  unfold Rv.rdy at h
  simp only [Bool.and_eq_true, decide_eq_true_eq, beq_iff_eq] at h
  obtain ⟨⟨h1, h2⟩, h3⟩ := h
  have ok := Lv.ok_of h2
  have hg := Lv.good_of h2
  unfold goodL at hg
  simp only [Bool.and_eq_true, Bool.not_eq_true', beq_eq_false_iff_ne] at hg
  have z1 := hg.1.1.1.1.1.1.2
  have z2 := hg.1.1.1.1.1.2
  have e0 := ok.st6
  have e1 := ok.ri6
  have e2 := ok.ca4
  have e3 := ok.su12
  rw [lv_len0] at e0
  rw [lv_len1] at e1
  rw [lv_len2] at e2 z1
  rw [lv_len3] at e3 z2
  exact ⟨Rv.few_of h1, h2, by omega, by omega, by omega, by omega, by omega, by omega, by omega⟩
theorem at_pair {R : Rv} {a b k h : Int} (ha : 0 ≤ a ∧ a < R.st.length) (hb : 0 ≤ b ∧ b < R.st.length) (hk : 0 ≤ k ∧ k < R.ca.length) (hh : 0 ≤ h ∧ h < R.su.length) : R.lv.At a b k h :=
  ⟨ha.1, by rw [lv_len0]; exact ha.2, hb.1, by rw [lv_len0]; exact hb.2, hk.1, by rw [lv_len2]; exact hk.2, hh.1, by rw [lv_len3]; exact hh.2⟩
theorem mod_bd {q : Int} {n : Nat} (hn : 1 ≤ n) : 0 ≤ q % (n : Int) ∧ q % (n : Int) < n := ⟨Int.emod_nonneg q (by omega), Int.emod_lt_of_pos q (by omega)⟩
section
variable {L : Lv} {f t k h : Int}
theorem mir_okF (h0 : L.check = 0) (h1 : L.ask f t 0 h = 0) (h2 : ¬ (rd_T99 L.su h).f2 ≤ 0) : mirE L f t h = (mirrorsF (rd_T85 L.st f) (rd_T85 L.st t) (rd_T99 L.su h), 0) := by
  unfold mirE; rw [if_neg (by simp [h0]), if_neg (by simp [h1]), if_neg h2]
theorem why_night (h2 : (rd_T99 L.su h).f2 ≤ 0) : whyF L f t k h = (1, 0) := by unfold whyF; rw [if_pos h2]
theorem why_behind (h2 : ¬ (rd_T99 L.su h).f2 ≤ 0) (h3 : (rd_T85 L.st f).f3 < mirrorsF (rd_T85 L.st f) (rd_T85 L.st t) (rd_T99 L.su h)) : whyF L f t k h = (2, 0) := by unfold whyF; rw [if_neg h2, if_pos h3]
theorem why_day (h2 : ¬ (rd_T99 L.su h).f2 ≤ 0) (h3 : ¬ (rd_T85 L.st f).f3 < mirrorsF (rd_T85 L.st f) (rd_T85 L.st t) (rd_T99 L.su h)) : whyF L f t k h = if 0 < (ridgesL L f t).length then (3, (ridgesL L f t).headD 0) else if 0 < (cloudsL L f t k h).length then (4, (cloudsL L f t k h).headD 0) else (0, 0) := by unfold whyF; rw [if_neg h2, if_neg h3]
end
end Go.Proofs.Ytkbdphjnpieceaa.G
