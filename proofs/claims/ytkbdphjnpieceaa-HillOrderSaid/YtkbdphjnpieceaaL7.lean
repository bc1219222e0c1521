/- Hours, case by case; always; the first case in which it cannot. -/
import Derived.Test.YtkbdphjnpieceaaL6
namespace Go.Proofs.Ytkbdphjnpieceaa.G
open Go.RowKit Go.Proofs.YtkbdphjnpieceaaW.PrintWords Go.Proofs.YtkbdphjnpieceaaW.PrintLast Go.Proofs.YtkbdphjnpieceaaW.PrintMore
set_option linter.unusedVariables false
set_option linter.unusedSimpArgs false
section
variable {L : Lv} {f t k h : Int}
theorem ask_zero (h0 : L.ask f t k h = 0) : L.ask f t 0 0 = 0 := by
  obtain ⟨hA, hne⟩ := at_of h0
  unfold Lv.ask askF
  rw [if_neg (by rw [inB_iff.2 ⟨hA.f0, by have := hA.f1; omega⟩]; decide), if_neg (by rw [inB_iff.2 ⟨hA.t0, by have := hA.t1; omega⟩]; decide), if_neg (by rw [inB_iff.2 ⟨by omega, by have := hA.k0; have := hA.k1; omega⟩]; decide), if_neg (by rw [inB_iff.2 ⟨by omega, by have := hA.h0; have := hA.h1; omega⟩]; decide), if_neg hne]
theorem ask_mk (hA : L.At f t k h) (hne : f ≠ t) : L.ask f t k h = 0 := by
  unfold Lv.ask askF
  rw [if_neg (by rw [inB_iff.2 ⟨hA.f0, by have := hA.f1; omega⟩]; decide), if_neg (by rw [inB_iff.2 ⟨hA.t0, by have := hA.t1; omega⟩]; decide), if_neg (by rw [inB_iff.2 ⟨hA.k0, by have := hA.k1; omega⟩]; decide), if_neg (by rw [inB_iff.2 ⟨hA.h0, by have := hA.h1; omega⟩]; decide), if_neg hne]
theorem hours_due : (hoursE L f t k).2 = L.due f t k 0 := by
  by_cases h1 : L.check = 0
  · rw [due_ok h1]
    by_cases h2 : L.ask f t k 0 = 0
    · rw [hours_ok h1 h2, h2]
    · rw [hours_out h1 h2]
  · rw [hours_bad h1, due_bad h1]
theorem hours_len (h0 : L.due f t k 0 ≠ 0) : (hoursE L f t k).1 = [] := by
  by_cases h1 : L.check = 0
  · rw [due_ok h1] at h0
    rw [hours_out h1 h0]
  · rw [hours_bad h1]
/-- The hours of the case that was asked for, if there is such a case. -/
def hourP (L : Lv) (f t k : Int) (h : Int) : Bool := decide (0 ≤ k) && decide (k < L.ca.length) && canF L f t k h
theorem filK_congr {p q : Int → Bool} {n : Nat} (hpq : ∀ i : Int, 0 ≤ i → i < n → p i = q i) : filK p n = filK q n := by
  unfold filK
  refine List.filter_congr fun x hx => ?_
  obtain ⟨j, hj, rfl⟩ := List.mem_map.1 hx
  rw [List.mem_range] at hj
  exact hpq _ (by simp) (by simp; omega)
theorem filK_no {p : Int → Bool} {n : Nat} (hp : ∀ i : Int, p i = false) : filK p n = [] := by
  unfold filK
  rw [List.filter_eq_nil_iff]
  intro x _
  rw [hp]
  decide
theorem hours_list (h0 : L.check = 0) (h1 : L.ask f t 0 0 = 0) : (hoursE L f t k).1 = filK (hourP L f t k) L.su.length := by
  obtain ⟨hA, hne⟩ := at_of h1
  by_cases hk : 0 ≤ k ∧ k < L.ca.length
  · rw [hours_ok h0 (ask_mk ⟨hA.f0, hA.f1, hA.t0, hA.t1, hk.1, hk.2, hA.h0, hA.h1⟩ hne)]
    exact filK_congr fun i _ _ => by simp [hourP, hk.1, hk.2]
  · have hq : L.ask f t k 0 ≠ 0 := fun c => hk ⟨(at_of c).1.k0, (at_of c).1.k1⟩
    rw [hours_out h0 hq, filK_no (p := hourP L f t k)]
    intro i
    unfold hourP
    by_cases a : 0 ≤ k
    · have : ¬ k < L.ca.length := fun b => hk ⟨a, b⟩
      simp [this]
    · simp [a]
/-- The hours while hour i's cases are tried up to c. -/
def hrsL (L : Lv) (f t k i c : Int) : List Int := if (decide (0 ≤ k) && decide (k < c) && canF L f t k i) = true then filK (hourP L f t k) i.toNat ++ [i] else filK (hourP L f t k) i.toNat
theorem hrs_0 {i : Int} : hrsL L f t k i 0 = filK (hourP L f t k) i.toNat := by
  unfold hrsL
  rw [if_neg]
  by_cases a : 0 ≤ k
  · have : ¬ k < 0 := by omega
    simp [this]
  · simp [a]
theorem hrs_ne {i c : Int} (h : (c == k) = false) : hrsL L f t k i (c + 1) = hrsL L f t k i c := by
  have hne : ¬ c = k := by simpa using h
  unfold hrsL
  have e : decide (k < c + 1) = decide (k < c) := by rw [Bool.eq_iff_iff, decide_eq_true_eq, decide_eq_true_eq]; omega
  rw [e]
theorem hrs_eq {i : Int} (h0 : 0 ≤ k) : hrsL L f t k i k = filK (hourP L f t k) i.toNat ∧ hrsL L f t k i (k + 1) = if canF L f t k i = true then filK (hourP L f t k) i.toNat ++ [i] else filK (hourP L f t k) i.toNat := by
  unfold hrsL
  have e1 : decide (k < k) = false := by simp
  have e2 : decide (k < k + 1) = true := by simp; omega
  have e3 : decide (0 ≤ k) = true := by simpa using h0
  rw [e1, e2, e3]
  exact ⟨by simp, by simp⟩
theorem hrs_end {i : Int} (hi : 0 ≤ i) : hrsL L f t k i L.ca.length = filK (hourP L f t k) (i.toNat + 1) := by
  rw [filK_succ]
  have e : ((i.toNat : Nat) : Int) = i := Int.toNat_of_nonneg hi
  rw [e]
  rfl
theorem hrs_len {i c : Int} (hi : 0 ≤ i) : (hrsL L f t k i c).length ≤ i.toNat + 1 := by
  have := filK_len (hourP L f t k) i.toNat
  unfold hrsL
  split
  · rw [List.length_append, List.length_singleton]; omega
  · omega
theorem stickK_all : ∀ (d k : Nat), (stickK L f t h d k = (k + d : Nat) ↔ ∀ j : Nat, k ≤ j → j < k + d → canF L f t j h = true) ∧ (k : Int) ≤ stickK L f t h d k ∧ stickK L f t h d k ≤ (k + d : Nat) := by
  intro d
  induction d with
  | zero => intro k; exact ⟨⟨fun _ j h1 h2 => by omega, fun _ => rfl⟩, by simp [stickK], by simp [stickK]⟩
  | succ d ih =>
    intro k
    unfold stickK
    by_cases hc : canF L f t k h = true
    · rw [if_pos hc]
      obtain ⟨a, b, c⟩ := ih (k + 1)
      have e : k + 1 + d = k + (d + 1) := by omega
      rw [e] at a c
      refine ⟨⟨fun hs j h1 h2 => ?_, fun ha => a.2 fun j h1 h2 => ha j (by omega) h2⟩, by omega, c⟩
      by_cases ej : j = k
      · rw [ej]; exact hc
      · exact a.1 hs j (by omega) h2
    · rw [if_neg hc]
      refine ⟨⟨fun hs => by omega, fun ha => absurd (ha k (Nat.le_refl _) (by omega)) hc⟩, by omega, by omega⟩
theorem stick_all : (stickF L f t h = L.ca.length) ↔ allK (fun c => canF L f t c h) L.ca.length = true := by
  have := (stickK_all (L := L) (f := f) (t := t) (h := h) L.ca.length 0).1
  rw [Nat.zero_add] at this
  unfold stickF allK
  rw [this, List.all_eq_true]
  simp only [List.mem_range]
  exact ⟨fun ha j hj => ha j (Nat.zero_le _) hj, fun ha j _ hj => ha j hj⟩
theorem always_list (h0 : L.check = 0) (h1 : L.ask f t 0 0 = 0) : alwaysE L f t = (filK (fun h => allK (fun c => canF L f t c h) L.ca.length) L.su.length, 0) := by
  rw [always_ok h0 h1, filK_congr (q := fun h => allK (fun c => canF L f t c h) L.ca.length)]
  intro i _ _
  rw [Bool.eq_iff_iff, decide_eq_true_eq]
  exact stick_all
end
end Go.Proofs.Ytkbdphjnpieceaa.G
