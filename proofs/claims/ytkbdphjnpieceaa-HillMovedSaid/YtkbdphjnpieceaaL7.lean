/- Hours, case by case; always; the first case in which it cannot. -/
import Derived.Test.YtkbdphjnpieceaaP1
namespace Go.Proofs.Ytkbdphjnpieceaa.G
open Go.RowKit Go.Proofs.YtkbdphjnpieceaaW.PrintWords Go.Proofs.YtkbdphjnpieceaaW.PrintLast Go.Proofs.YtkbdphjnpieceaaW.PrintMore
set_option linter.unusedVariables false
set_option linter.unusedSimpArgs false
section
variable {L : Lv} {f t k h : Int}
theorem why_ok (h0 : L.check = 0) (h1 : L.ask f t k h = 0) : whyE L f t k h = ((whyF L f t k h).1, (whyF L f t k h).2, 0) := by unfold whyE; rw [if_neg (by simp [h0]), if_neg (by simp [h1])]
theorem walls_ok (h0 : L.check = 0) (h1 : L.ask f t k h = 0) : wallsE L f t k h = (ridgesL L f t, cloudsL L f t k h, 0) := by unfold wallsE; rw [if_neg (by simp [h0]), if_neg (by simp [h1])]
theorem hours_ok (h0 : L.check = 0) (h1 : L.ask f t k 0 = 0) : hoursE L f t k = (filK (fun h => canF L f t k h) L.su.length, 0) := by unfold hoursE; rw [if_neg (by simp [h0]), if_neg (by simp [h1])]
theorem always_ok (h0 : L.check = 0) (h1 : L.ask f t 0 0 = 0) : alwaysE L f t = (filK (fun h => decide (stickF L f t h = L.ca.length)) L.su.length, 0) := by unfold alwaysE; rw [if_neg (by simp [h0]), if_neg (by simp [h1])]
end
end Go.Proofs.Ytkbdphjnpieceaa.G
namespace Go.Proofs.Ytkbdphjnpieceaa.G
open Go.RowKit Go.Proofs.YtkbdphjnpieceaaW.PrintWords Go.Proofs.YtkbdphjnpieceaaW.PrintLast Go.Proofs.YtkbdphjnpieceaaW.PrintMore
set_option linter.unusedVariables false
set_option linter.unusedSimpArgs false
section
variable {L : Lv} {f t k h : Int}
theorem ask_mk (hA : L.At f t k h) (hne : f ≠ t) : L.ask f t k h = 0 := by
  unfold Lv.ask askF
  rw [if_neg (by rw [inB_iff.2 ⟨hA.f0, by have := hA.f1; omega⟩]; decide), if_neg (by rw [inB_iff.2 ⟨hA.t0, by have := hA.t1; omega⟩]; decide), if_neg (by rw [inB_iff.2 ⟨hA.k0, by have := hA.k1; omega⟩]; decide), if_neg (by rw [inB_iff.2 ⟨hA.h0, by have := hA.h1; omega⟩]; decide), if_neg hne]
theorem filK_congr {p q : Int → Bool} {n : Nat} (hpq : ∀ i : Int, 0 ≤ i → i < n → p i = q i) : filK p n = filK q n := by
  unfold filK
  refine List.filter_congr fun x hx => ?_
  obtain ⟨j, hj, rfl⟩ := List.mem_map.1 hx
  rw [List.mem_range] at hj
  exact hpq _ (by simp) (by simp; omega)
theorem stickK_all : ∀ (d k : Nat), (stickK L f t h d k = (k + d : Nat) ↔ ∀ j : Nat, k ≤ j → j < k + d → canF L f t j h = true) ∧ (k : Int) ≤ stickK L f t h d k ∧ stickK L f t h d k ≤ (k + d : Nat) := by
  intro d
  induction d with
  | zero => intro k; exact ⟨⟨fun _ j h1 h2 => by omega, fun _ => rfl⟩, by simp [stickK], by simp [stickK]⟩
  | succ d ih =>
    intro k
    unfold stickK
    by_cases hc : canF L f t k h = true
    · rw [if_pos hc]
      obtain ⟨a, b, c⟩ := ih (k + 1)
      have e : k + 1 + d = k + (d + 1) := by omega
      rw [e] at a c
      refine ⟨⟨fun hs j h1 h2 => ?_, fun ha => a.2 fun j h1 h2 => ha j (by omega) h2⟩, by omega, c⟩
      by_cases ej : j = k
      · rw [ej]; exact hc
      · exact a.1 hs j (by omega) h2
    · rw [if_neg hc]
      refine ⟨⟨fun hs => by omega, fun ha => absurd (ha k (Nat.le_refl _) (by omega)) hc⟩, by omega, by omega⟩
theorem stick_all : (stickF L f t h = L.ca.length) ↔ allK (fun c => canF L f t c h) L.ca.length = true := by
  have := (stickK_all (L := L) (f := f) (t := t) (h := h) L.ca.length 0).1
  rw [Nat.zero_add] at this
  unfold stickF allK
  rw [this, List.all_eq_true]
  simp only [List.mem_range]
  exact ⟨fun ha j hj => ha j (Nat.zero_le _) hj, fun ha j _ hj => ha j hj⟩
theorem always_list (h0 : L.check = 0) (h1 : L.ask f t 0 0 = 0) : alwaysE L f t = (filK (fun h => allK (fun c => canF L f t c h) L.ca.length) L.su.length, 0) := by
  rw [always_ok h0 h1, filK_congr (q := fun h => allK (fun c => canF L f t c h) L.ca.length)]
  intro i _ _
  rw [Bool.eq_iff_iff, decide_eq_true_eq]
  exact stick_all
end
end Go.Proofs.Ytkbdphjnpieceaa.G
