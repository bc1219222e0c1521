/- The rise by halving is the first number that passes. -/
import Derived.Test.YtkbdphjnpieceaaL4
namespace Go.Proofs.Ytkbdphjnpieceaa.G
open Go.RowKit Go.Proofs.YtkbdphjnpieceaaW.PrintWords Go.Proofs.YtkbdphjnpieceaaW.PrintLast Go.Proofs.YtkbdphjnpieceaaW.PrintMore
set_option linter.unusedVariables false
set_option linter.unusedSimpArgs false

section
variable {L : Lv} {f t k h : Int}
theorem ask_six (a : inB f 0 (L.st.length - 1) = true) (b : inB k 0 (L.ca.length - 1) = true) (c : inB h 0 (L.su.length - 1) = true) : L.ask f f k h = 6 := by
  unfold Lv.ask askF
  rw [if_neg (by rw [a]; decide), if_neg (by rw [a]; decide), if_neg (by rw [b]; decide), if_neg (by rw [c]; decide), if_pos rfl]
theorem reach_ok (h0 : L.check = 0) (a : inB f 0 (L.st.length - 1) = true) (b : inB k 0 (L.ca.length - 1) = true) (c : inB h 0 (L.su.length - 1) = true) : reachE L f k h = (filK (fun t => canF L f t k h) L.st.length, 0) := by
  unfold reachE; rw [if_neg (by simp [h0]), if_neg (by rw [ask_six a b c]; decide)]
theorem at_of (h1 : L.ask f t k h = 0) : L.At f t k h ∧ f ≠ t := by
  obtain ⟨⟨⟨a, b⟩, ⟨c, d⟩, ⟨e, g⟩, i, j⟩, hne⟩ := ask_ok h1
  exact ⟨⟨a, b, c, d, e, g, i, j⟩, hne⟩
end
end Go.Proofs.Ytkbdphjnpieceaa.G
namespace Go.Proofs.Ytkbdphjnpieceaa.G
open Go.RowKit Go.Proofs.YtkbdphjnpieceaaW.PrintWords Go.Proofs.YtkbdphjnpieceaaW.PrintLast Go.Proofs.YtkbdphjnpieceaaW.PrintMore
set_option linter.unusedVariables false
set_option linter.unusedSimpArgs false

theorem lin_spec (p : Int → Bool) : ∀ (d : Nat) (n : Int), (lin p d n = -1 ∧ ∀ m, n ≤ m → m < n + d → p m = false) ∨ (n ≤ lin p d n ∧ lin p d n < n + d ∧ p (lin p d n) = true ∧ ∀ m, n ≤ m → m < lin p d n → p m = false) := by
  intro d
  induction d with
  | zero => intro n; exact .inl ⟨rfl, fun m h1 h2 => by omega⟩
  | succ d ih =>
    intro n
    unfold lin
    by_cases h : p n = true
    · rw [if_pos h]
      exact .inr ⟨by omega, by omega, h, fun m h1 h2 => by omega⟩
    · rw [if_neg h]
      have hn : p n = false := by simpa using h
      rcases ih (n + 1) with ⟨h1, h2⟩ | ⟨h1, h2, h3, h4⟩
      · refine .inl ⟨h1, fun m a b => ?_⟩
        by_cases e : m = n
        · rw [e]; exact hn
        · exact h2 m (by omega) (by omega)
      · refine .inr ⟨by omega, by omega, h3, fun m a b => ?_⟩
        by_cases e : m = n
        · rw [e]; exact hn
        · exact h4 m (by omega) b
theorem halve_spec (p : Int → Bool) (hi : Int) (hm : ∀ a b, 0 ≤ a → a ≤ b → b ≤ hi → p a = true → p b = true) : ∀ (k : Nat) (low high : Int), 0 ≤ low → low ≤ high → high ≤ hi → high - low < k → p high = true →
    low ≤ halve p k low high ∧ halve p k low high ≤ high ∧ p (halve p k low high) = true ∧ ∀ m, low ≤ m → m < halve p k low high → p m = false := by
  intro k
  induction k with
  | zero => intro low high _ _ _ h; omega
  | succ k ih =>
    intro low high h0 h1 h2 h3 hp
    unfold halve
    by_cases hlt : low < high
    · rw [if_pos hlt]
      by_cases hq : p ((low + high) / 2) = true
      · rw [if_pos hq]
        obtain ⟨a, b, c, d⟩ := ih low ((low + high) / 2) h0 (by omega) (by omega) (by omega) hq
        exact ⟨a, by omega, c, d⟩
      · rw [if_neg hq]
        obtain ⟨a, b, c, d⟩ := ih ((low + high) / 2 + 1) high (by omega) (by omega) (by omega) (by omega) hp
        refine ⟨by omega, b, c, fun m e1 e2 => ?_⟩
        by_cases e : m ≤ (low + high) / 2
        · cases hv : p m
          · rfl
          · exact absurd (hm m _ (by omega) e (by omega) hv) hq
        · exact d m (by omega) e2
    · rw [if_neg hlt]
      have : low = high := by omega
      exact ⟨by omega, by omega, by rw [this]; exact hp, fun m a b => by omega⟩
theorem first_eq (p : Int → Bool) (hi : Int) (h0 : 0 ≤ hi) (h1 : hi ≤ 1000) (hm : ∀ a b, 0 ≤ a → a ≤ b → b ≤ hi → p a = true → p b = true) :
    (p hi = false ∧ lin p (hi + 1).toNat 0 = -1) ∨ (p hi = true ∧ 0 ≤ lin p (hi + 1).toNat 0 ∧ halve p 1001 0 hi = lin p (hi + 1).toNat 0) := by
  have hl := lin_spec p (hi + 1).toNat 0
  cases hp : p hi
  · refine .inl ⟨rfl, ?_⟩
    rcases hl with ⟨a, _⟩ | ⟨a, b, c, _⟩
    · exact a
    · have := hm _ hi a (by omega) (by omega) c
      rw [hp] at this
      exact absurd this (by decide)
  · obtain ⟨a, b, c, d⟩ := halve_spec p hi hm 1001 0 hi (by omega) h0 (by omega) (by omega) hp
    rcases hl with ⟨_, e⟩ | ⟨e, g, i, j⟩
    · have := e hi h0 (by omega)
      rw [hp] at this
      exact absurd this (by decide)
    · refine .inr ⟨rfl, e, ?_⟩
      generalize halve p 1001 0 hi = r at *
      generalize lin p (hi + 1).toNat 0 = q at *
      by_cases h : r < q
      · have := j r a h
        rw [c] at this
        exact absurd this (by decide)
      · by_cases h' : q < r
        · have := d q e h'
          rw [i] at this
          exact absurd this (by decide)
        · omega
theorem mono_core (p q : Int) (r : Bool) (za zb bz x4 x5 : Int) (hz : 0 ≤ za) (hzz : za ≤ zb) (hbz : 0 ≤ bz) (hx : x4 = 0)
    (h : (if p = 0 then false else if q = 0 then false else if (decide (0 < p) == decide (0 < q)) = true then false else if r = true then false
      else decide (0 ≤ zb * absI q + bz * absI p - x4 * (absI p + absI q)) && decide (zb * absI q + bz * absI p - x5 * (absI p + absI q) ≤ 0)) = true) :
    (if p = 0 then false else if q = 0 then false else if (decide (0 < p) == decide (0 < q)) = true then false else if r = true then false
      else decide (0 ≤ za * absI q + bz * absI p - x4 * (absI p + absI q)) && decide (za * absI q + bz * absI p - x5 * (absI p + absI q) ≤ 0)) = true := by
  by_cases h1 : p = 0
  · rw [if_pos h1] at h; exact absurd h (by decide)
  rw [if_neg h1] at h ⊢
  by_cases h2 : q = 0
  · rw [if_pos h2] at h; exact absurd h (by decide)
  rw [if_neg h2] at h ⊢
  by_cases h3 : (decide (0 < p) == decide (0 < q)) = true
  · rw [if_pos h3] at h; exact absurd h (by decide)
  rw [if_neg h3] at h ⊢
  by_cases h4 : r = true
  · rw [if_pos h4] at h; exact absurd h (by decide)
  rw [if_neg h4] at h ⊢
  have hp : 0 ≤ absI p := by unfold absI; split <;> omega
  have hq : 0 ≤ absI q := by unfold absI; split <;> omega
  generalize absI p = u at *
  generalize absI q = v at *
  rw [Bool.and_eq_true, decide_eq_true_eq, decide_eq_true_eq, hx, Int.zero_mul] at h ⊢
  have m1 : za * v ≤ zb * v := Int.mul_le_mul_of_nonneg_right hzz hq
  have m2 : 0 ≤ za * v := Int.mul_nonneg hz hq
  have m3 : 0 ≤ bz * u := Int.mul_nonneg hbz hp
  constructor
  · omega
  · have := h.2
    omega
/-- With more height a wall from the ground does not block more. -/
theorem block_mono {x : S86} {s t : S85} {a b : Int} (h0 : 0 ≤ a) (hab : a ≤ b) (hx : x.f4 = 0) (hs : 0 ≤ s.f2) (ht : 0 ≤ t.f2) (h : blocksB x (upS s b) t = true) : blocksB x (upS s a) t = true :=
  mono_core _ _ _ (s.f2 + a) (s.f2 + b) t.f2 x.f4 x.f5 (by omega) (by omega) ht hx h
theorem free_mono {L : Lv} {s t : S85} {a b : Int} (h0 : 0 ≤ a) (hab : a ≤ b) (hx : ∀ x ∈ L.ri, x.f4 = 0) (hs : 0 ≤ s.f2) (ht : 0 ≤ t.f2) (h : freeB L s t a = true) : freeB L s t b = true := by
  unfold freeB at h ⊢
  rw [List.all_eq_true] at h ⊢
  intro x hm
  have := h x hm
  cases hb : blocksB x (upS s b) t
  · rfl
  · rw [block_mono h0 hab (hx x hm) hs ht hb] at this
    exact absurd this (by decide)
theorem Lv.good_of {L : Lv} (h : L.check = 0) : goodL L.st L.ri L.ca L.su = true := by
  unfold Lv.check at h
  by_cases hb : 6 < (L.st.length : Int) ∨ 6 < (L.ri.length : Int) ∨ 4 < (L.ca.length : Int) ∨ 12 < (L.su.length : Int) ∨ L.ca.all fewB = false
  · rw [check_big hb] at h; exact absurd h (by decide)
  · have hsm : smallL L.st L.ri L.ca L.su := ⟨fun c => hb (.inl c), fun c => hb (.inr (.inl c)), fun c => hb (.inr (.inr (.inl c))), fun c => hb (.inr (.inr (.inr (.inl c)))), by
      cases hq : L.ca.all fewB
      · exact absurd (.inr (.inr (.inr (.inr hq)))) hb
      · rfl⟩
    rw [check_good hsm] at h
    by_cases hg : goodL L.st L.ri L.ca L.su = true
    · exact hg
    · rw [if_neg hg] at h; exact absurd h (by decide)
theorem Lv.base_of {L : Lv} (h : L.check = 0) : ∀ x ∈ L.ri, x.f4 = 0 := by
  have hg := (Lv.good_of h)
  unfold goodL at hg
  simp only [Bool.and_eq_true, List.all_eq_true] at hg
  intro x hx
  have := hg.1.1.2 x hx
  simp only [ridgeOK, Bool.and_eq_true, beq_iff_eq] at this
  exact this.2
theorem rise_law {L : Lv} {f t : Int} (hc : L.check = 0) (ha : L.ask f t 0 0 = 0) : (linR L f t = -1 ∧ riseE L f t = (0, 9)) ∨ (0 ≤ linR L f t ∧ riseE L f t = (linR L f t, 0)) := by
  obtain ⟨hA, _⟩ := at_of ha
  have o1 := (Lv.ok_of hc).st f hA.f0 hA.f1
  have o2 := (Lv.ok_of hc).st t hA.t0 hA.t1
  have hz := o1.2.2
  unfold riseE
  rw [if_neg (by simp [hc]), if_neg (by simp [ha])]
  unfold riseF linR
  have e : (1001 - (rd_T85 L.st f).f2).toNat = ((1000 - (rd_T85 L.st f).f2) + 1).toNat := by omega
  rw [e]
  rcases first_eq (freeB L (rd_T85 L.st f) (rd_T85 L.st t)) (1000 - (rd_T85 L.st f).f2) (by omega) (by omega) (fun a b h0 hab _ h => free_mono h0 hab (Lv.base_of hc) hz.1 o2.2.2.1 h) with ⟨h1, h2⟩ | ⟨h1, h2, h3⟩
  · exact .inl ⟨h2, by rw [if_pos h1]⟩
  · exact .inr ⟨h2, by rw [if_neg (by rw [h1]; decide), h3]⟩
end Go.Proofs.Ytkbdphjnpieceaa.G
