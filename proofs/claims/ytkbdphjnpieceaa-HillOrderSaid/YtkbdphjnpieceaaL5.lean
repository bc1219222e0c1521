/- What the program's answers are, way by way. -/
import Derived.Test.YtkbdphjnpieceaaL4
namespace Go.Proofs.Ytkbdphjnpieceaa.G
open Go.RowKit Go.Proofs.YtkbdphjnpieceaaW.PrintWords Go.Proofs.YtkbdphjnpieceaaW.PrintLast Go.Proofs.YtkbdphjnpieceaaW.PrintMore
set_option linter.unusedVariables false
set_option linter.unusedSimpArgs false

section
variable {L : Lv} {f t k h : Int}
theorem due_bad (h0 : L.check ≠ 0) : L.due f t k h = L.check := by unfold Lv.due; rw [if_pos h0]
theorem due_ok (h0 : L.check = 0) : L.due f t k h = L.ask f t k h := by unfold Lv.due; rw [if_neg (by simp [h0])]
theorem reach_bad (h0 : L.check ≠ 0) : reachE L f k h = ([], L.check) := by unfold reachE; rw [if_pos h0]
theorem ask_two (h1 : inB f 0 (L.st.length - 1) = false ∨ inB k 0 (L.ca.length - 1) = false ∨ inB h 0 (L.su.length - 1) = false) : L.ask f f k h = 2 := by
  unfold Lv.ask askF
  by_cases a : inB f 0 ((L.st.length : Int) - 1) = false
  · rw [if_pos a]
  by_cases b : inB k 0 ((L.ca.length : Int) - 1) = false
  · rw [if_neg a, if_neg a, if_pos b]
  by_cases c : inB h 0 ((L.su.length : Int) - 1) = false
  · rw [if_neg a, if_neg a, if_neg b, if_pos c]
  · rcases h1 with h1 | h1 | h1
    · exact absurd h1 a
    · exact absurd h1 b
    · exact absurd h1 c
theorem ask_six (a : inB f 0 (L.st.length - 1) = true) (b : inB k 0 (L.ca.length - 1) = true) (c : inB h 0 (L.su.length - 1) = true) : L.ask f f k h = 6 := by
  unfold Lv.ask askF
  rw [if_neg (by rw [a]; decide), if_neg (by rw [a]; decide), if_neg (by rw [b]; decide), if_neg (by rw [c]; decide), if_pos rfl]
theorem reach_out (h0 : L.check = 0) (h1 : inB f 0 (L.st.length - 1) = false ∨ inB k 0 (L.ca.length - 1) = false ∨ inB h 0 (L.su.length - 1) = false) : reachE L f k h = ([], 2) := by
  unfold reachE; rw [if_neg (by simp [h0]), if_pos (ask_two h1)]
theorem reach_ok (h0 : L.check = 0) (a : inB f 0 (L.st.length - 1) = true) (b : inB k 0 (L.ca.length - 1) = true) (c : inB h 0 (L.su.length - 1) = true) : reachE L f k h = (filK (fun t => canF L f t k h) L.st.length, 0) := by
  unfold reachE; rw [if_neg (by simp [h0]), if_neg (by rw [ask_six a b c]; decide)]
theorem mir_bad (h0 : L.check ≠ 0) : mirE L f t h = (0, L.check) := by unfold mirE; rw [if_pos h0]
theorem mir_out (h0 : L.check = 0) (h1 : L.ask f t 0 h ≠ 0) : mirE L f t h = (0, L.ask f t 0 h) := by unfold mirE; rw [if_neg (by simp [h0]), if_pos h1]
theorem mir_night (h0 : L.check = 0) (h1 : L.ask f t 0 h = 0) (h2 : (rd_T99 L.su h).f2 ≤ 0) : mirE L f t h = (0, 7) := by unfold mirE; rw [if_neg (by simp [h0]), if_neg (by simp [h1]), if_pos h2]
theorem mir_ok (h0 : L.check = 0) (h1 : L.ask f t 0 h = 0) (h2 : ¬ (rd_T99 L.su h).f2 ≤ 0) : mirE L f t h = (if behB (rd_T85 L.st f) (rd_T85 L.st t) (rd_T99 L.su h) = true then 2 else 1, 0) := by
  unfold mirE; rw [if_neg (by simp [h0]), if_neg (by simp [h1]), if_neg h2]
  unfold mirrorsF behB
  simp only [decide_eq_true_eq]
theorem at_of (h1 : L.ask f t k h = 0) : L.At f t k h ∧ f ≠ t := by
  obtain ⟨⟨⟨a, b⟩, ⟨c, d⟩, ⟨e, g⟩, i, j⟩, hne⟩ := ask_ok h1
  exact ⟨⟨a, b, c, d, e, g, i, j⟩, hne⟩
theorem at_in (h0 : L.check = 0) (a : inB f 0 (L.st.length - 1) = true) (b : inB k 0 (L.ca.length - 1) = true) (c : inB h 0 (L.su.length - 1) = true) (ht : 0 ≤ t) (ht' : t < L.st.length) : L.At f t k h := by
  rw [inB_iff] at a b c
  exact ⟨a.1, by omega, ht, ht', b.1, by omega, c.1, by omega⟩
end
end Go.Proofs.Ytkbdphjnpieceaa.G
