/- Hours that are in lists of hours. -/
import Derived.Test.YtkbdphjnpieceaaL9
namespace Go.Proofs.Ytkbdphjnpieceaa.G
open Go.RowKit Go.Proofs.YtkbdphjnpieceaaW.PrintWords Go.Proofs.YtkbdphjnpieceaaW.PrintLast Go.Proofs.YtkbdphjnpieceaaW.PrintMore
set_option linter.unusedVariables false
set_option linter.unusedSimpArgs false
theorem mem_filK {p : Int → Bool} {n : Nat} {x : Int} : x ∈ filK p n ↔ 0 ≤ x ∧ x < n ∧ p x = true := by
  unfold filK
  rw [List.mem_filter, List.mem_map]
  constructor
  · rintro ⟨⟨j, hj, rfl⟩, hp⟩
    rw [List.mem_range] at hj
    exact ⟨by simp, by simp; omega, hp⟩
  · rintro ⟨h0, h1, hp⟩
    exact ⟨⟨x.toNat, by rw [List.mem_range]; omega, by simp; omega⟩, hp⟩
theorem within_one {p : Int → Bool} {n : Nat} {t : Int} (h0 : 0 ≤ t) (h1 : t < n) : withinB [t] (filK p n) = p t := by
  rw [Bool.eq_iff_iff, withinB_iff]
  simp only [List.mem_singleton, forall_eq, mem_filK]
  exact ⟨fun h => h.2.2, fun h => ⟨h0, h1, h⟩⟩
theorem within_fil {p q : Int → Bool} {n : Nat} (h : ∀ i : Int, 0 ≤ i → i < n → p i = true → q i = true) : withinB (filK p n) (filK q n) = true := by
  rw [withinB_iff]
  intro x hx
  rw [mem_filK] at hx ⊢
  exact ⟨hx.1, hx.2.1, h x hx.1 hx.2.1 hx.2.2⟩
theorem allK_at {p : Int → Bool} {n : Nat} (h : allK p n = true) {i : Int} (h0 : 0 ≤ i) (h1 : i < n) : p i = true := by
  unfold allK at h
  rw [List.all_eq_true] at h
  have := h i.toNat (by rw [List.mem_range]; omega)
  rwa [Int.toNat_of_nonneg h0] at this
theorem stickK_spec {L : Lv} {f t h : Int} : ∀ (d k : Nat), (∀ j : Int, (k : Int) ≤ j → j < stickK L f t h d k → canF L f t j h = true) ∧ (stickK L f t h d k < (k + d : Nat) → canF L f t (stickK L f t h d k) h = false) := by
  intro d
  induction d with
  | zero => intro k; exact ⟨fun j h1 h2 => by simp only [stickK] at h2; omega, fun h1 => by simp only [stickK] at h1; omega⟩
  | succ d ih =>
    intro k
    unfold stickK
    by_cases hc : canF L f t k h = true
    · rw [if_pos hc]
      obtain ⟨a, b⟩ := ih (k + 1)
      refine ⟨fun j h1 h2 => ?_, fun h1 => b (by omega)⟩
      by_cases e : j = k
      · rw [e]; exact hc
      · exact a j (by omega) h2
    · rw [if_neg hc]
      exact ⟨fun j h1 h2 => by omega, fun _ => by simpa using hc⟩
theorem stick_spec {L : Lv} {f t h : Int} : (0 ≤ stickF L f t h ∧ stickF L f t h ≤ L.ca.length) ∧ (∀ j : Int, 0 ≤ j → j < stickF L f t h → canF L f t j h = true) ∧ (stickF L f t h < L.ca.length → canF L f t (stickF L f t h) h = false) := by
  have h1 := (stickK_all (L := L) (f := f) (t := t) (h := h) L.ca.length 0).2
  have h2 := stickK_spec (L := L) (f := f) (t := t) (h := h) L.ca.length 0
  rw [Nat.zero_add] at h1 h2
  exact ⟨h1, h2⟩
end Go.Proofs.Ytkbdphjnpieceaa.G
