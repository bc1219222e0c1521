/- Lands in which the same walls, or fewer, block. -/
import Derived.Test.YtkbdphjnpieceaaP3
namespace Go.Proofs.Ytkbdphjnpieceaa.G
open Go.RowKit Go.Proofs.YtkbdphjnpieceaaW.PrintWords Go.Proofs.YtkbdphjnpieceaaW.PrintLast Go.Proofs.YtkbdphjnpieceaaW.PrintMore
set_option linter.unusedVariables false
set_option linter.unusedSimpArgs false
/-! Lands. -/
theorem filget_nil {α : Type} {xs : List α} {z : α} {p : α → Bool} : (((List.range xs.length).map Int.ofNat).filter fun i => p (xs.getD i.toNat z)) = [] ↔ ∀ x ∈ xs, p x = false := by
  rw [List.filter_eq_nil_iff]
  constructor
  · intro h x hx
    obtain ⟨i, hi, rfl⟩ := List.mem_iff_getElem.1 hx
    have := h (Int.ofNat i) (List.mem_map.2 ⟨i, List.mem_range.2 hi, rfl⟩)
    rw [show Int.toNat (Int.ofNat i) = i from rfl, List.getD_eq_getElem?_getD, List.getElem?_eq_getElem hi] at this
    simpa using this
  · intro h y hy
    obtain ⟨i, hi, rfl⟩ := List.mem_map.1 hy
    rw [List.mem_range] at hi
    rw [show Int.toNat (Int.ofNat i) = i from rfl, List.getD_eq_getElem?_getD, List.getElem?_eq_getElem hi]
    have := h _ (List.getElem_mem hi)
    simpa using this
theorem ridges_nil {L : Lv} {f t : Int} : ridgesL L f t = [] ↔ ∀ x ∈ L.ri, blocksB x (rd_T85 L.st f) (rd_T85 L.st t) = false :=
  filget_nil (xs := L.ri) (z := z86) (p := fun x => blocksB x (rd_T85 L.st f) (rd_T85 L.st t))
theorem clouds_nil {L : Lv} {f t k h : Int} : cloudsL L f t k h = [] ↔ ∀ c ∈ rd_L9 L.ca k, (inB h c.f1 c.f2 && blocksB c.f0 (rd_T85 L.st f) (rd_T85 L.st t)) = false :=
  filget_nil (xs := rd_L9 L.ca k) (z := z88) (p := fun c => inB h c.f1 c.f2 && blocksB c.f0 (rd_T85 L.st f) (rd_T85 L.st t))
theorem can_iff {L : Lv} {f t k h : Int} : canF L f t k h = true ↔ f ≠ t ∧ ¬ (rd_T99 L.su h).f2 ≤ 0 ∧ ¬ (rd_T85 L.st f).f3 < mirrorsF (rd_T85 L.st f) (rd_T85 L.st t) (rd_T99 L.su h) ∧ ridgesL L f t = [] ∧ cloudsL L f t k h = [] := by
  unfold canF whyF
  rw [Bool.and_eq_true, decide_eq_true_eq, decide_eq_true_eq]
  refine and_congr_right fun _ => ?_
  by_cases h1 : (rd_T99 L.su h).f2 ≤ 0
  · rw [if_pos h1]; simp [h1]
  rw [if_neg h1]
  by_cases h2 : (rd_T85 L.st f).f3 < mirrorsF (rd_T85 L.st f) (rd_T85 L.st t) (rd_T99 L.su h)
  · rw [if_pos h2]; simp [h2]
  rw [if_neg h2]
  by_cases h3 : 0 < (ridgesL L f t).length
  · rw [if_pos h3]
    have : ridgesL L f t ≠ [] := fun e => by rw [e] at h3; exact absurd h3 (by decide)
    simp [this]
  rw [if_neg h3]
  have e3 : ridgesL L f t = [] := List.length_eq_zero_iff.1 (by omega)
  by_cases h4 : 0 < (cloudsL L f t k h).length
  · rw [if_pos h4]
    have : cloudsL L f t k h ≠ [] := fun e => by rw [e] at h4; exact absurd h4 (by decide)
    simp [this]
  rw [if_neg h4]
  have e4 : cloudsL L f t k h = [] := List.length_eq_zero_iff.1 (by omega)
  simp [h1, h2, e3, e4]
/-- With fewer walls it can where it could. -/
theorem can_sub {L M : Lv} {f t k k' h : Int} (hs : M.st = L.st) (hu : M.su = L.su) (hr : ∀ x ∈ M.ri, x ∈ L.ri) (hc : ∀ c ∈ rd_L9 M.ca k', c ∈ rd_L9 L.ca k) (hp : canF L f t k h = true) : canF M f t k' h = true := by
  rw [can_iff] at hp ⊢
  rw [ridges_nil, clouds_nil] at hp ⊢
  rw [hs, hu]
  exact ⟨hp.1, hp.2.1, hp.2.2.1, fun x hx => hp.2.2.2.1 x (hr x hx), fun c hx => hp.2.2.2.2 c (hc c hx)⟩
theorem rd_L9_mem {ca : List (List S88)} {i : Int} (h0 : 0 ≤ i) (h1 : i < ca.length) : rd_L9 ca i ∈ ca := by
  unfold rd_L9
  rw [List.getD_eq_getElem?_getD, List.getElem?_eq_getElem (by omega : i.toNat < ca.length)]
  exact List.getElem_mem _
theorem mem_rd_L9 {ca : List (List S88)} {c : List S88} (h : c ∈ ca) : ∃ i : Int, 0 ≤ i ∧ i < ca.length ∧ rd_L9 ca i = c := by
  obtain ⟨i, hi, rfl⟩ := List.mem_iff_getElem.1 h
  refine ⟨i, by omega, by omega, ?_⟩
  unfold rd_L9
  rw [Int.toNat_natCast, List.getD_eq_getElem?_getD, List.getElem?_eq_getElem hi]
  rfl
theorem allK_iff {p : Int → Bool} {n : Nat} : allK p n = true ↔ ∀ i : Int, 0 ≤ i → i < n → p i = true := by
  constructor
  · intro h i h0 h1; exact allK_at h h0 h1
  · intro h
    unfold allK
    rw [List.all_eq_true]
    intro j hj
    rw [List.mem_range] at hj
    exact h j (by omega) (by omega)
theorem allcan_sub {L M : Lv} {f t h : Int} (hs : M.st = L.st) (hu : M.su = L.su) (hr : ∀ x ∈ M.ri, x ∈ L.ri) (hc : ∀ c ∈ M.ca, c ∈ L.ca) (hp : allK (fun c => canF L f t c h) L.ca.length = true) : allK (fun c => canF M f t c h) M.ca.length = true := by
  rw [allK_iff] at hp ⊢
  intro i h0 h1
  obtain ⟨j, j0, j1, e⟩ := mem_rd_L9 (hc _ (rd_L9_mem h0 h1))
  exact can_sub hs hu hr (fun c hx => by rw [e]; exact hx) (hp j j0 j1)
theorem rise_same {L M : Lv} {f t f' t' : Int} (hz : (rd_T85 M.st f').f2 = (rd_T85 L.st f).f2) (hf : freeB M (rd_T85 M.st f') (rd_T85 M.st t') = freeB L (rd_T85 L.st f) (rd_T85 L.st t)) (cM : M.check = 0) (cL : L.check = 0) (aM : M.ask f' t' 0 0 = 0) (aL : L.ask f t 0 0 = 0) : riseE M f' t' = riseE L f t := by
  have e : riseF M f' t' = riseF L f t := by unfold riseF; rw [hf, hz]
  unfold riseE
  rw [if_neg (by simp [cM]), if_neg (by simp [aM]), if_neg (by simp [cL]), if_neg (by simp [aL]), e]
/-- Ridges and cases put in another order. -/
theorem order_x {L M : Lv} {f t : Int} (hs : M.st = L.st) (hu : M.su = L.su) (hr : ∀ x, x ∈ M.ri ↔ x ∈ L.ri) (hc : ∀ c, c ∈ M.ca ↔ c ∈ L.ca) (cM : M.check = 0) (cL : L.check = 0) (aM : M.ask f t 0 0 = 0) (aL : L.ask f t 0 0 = 0) : alwaysE M f t = alwaysE L f t ∧ riseE M f t = riseE L f t := by
  constructor
  · rw [always_list cM aM, always_list cL aL, hu]
    congr 1
    refine filK_congr fun h _ _ => ?_
    rw [Bool.eq_iff_iff]
    exact ⟨allcan_sub hs.symm hu.symm (fun x hx => (hr x).2 hx) (fun c hx => (hc c).2 hx), allcan_sub hs hu (fun x hx => (hr x).1 hx) (fun c hx => (hc c).1 hx)⟩
  · refine rise_same (by rw [hs]) ?_ cM cL aM aL
    rw [hs]
    funext n
    unfold freeB
    rw [Bool.eq_iff_iff, List.all_eq_true, List.all_eq_true]
    exact ⟨fun h x hx => h x ((hr x).2 hx), fun h x hx => h x ((hr x).1 hx)⟩
/-- Other ridges and clouds, each valid. -/
theorem check_sub {L : Lv} {ri : List S86} {ca : List (List S88)} (h : L.check = 0) (hr : ri.length ≤ 6) (hro : ∀ x ∈ ri, ridgeOK x = true) (hl : ca.length = L.ca.length) (hco : ∀ c ∈ ca, fewB c = true ∧ c.all (cloudOK L.su.length) = true) : checkF L.st ri ca L.su = 0 := by
  obtain ⟨s0, s1, s2, s3, s4⟩ := small_of h
  have hg := Lv.good_of h
  rw [check_good ⟨s0, by omega, by rw [hl]; exact s2, s3, List.all_eq_true.2 fun c hc => (hco c hc).1⟩, if_pos]
  unfold goodL at hg ⊢
  simp only [Bool.and_eq_true] at hg ⊢
  obtain ⟨⟨⟨⟨⟨⟨⟨g0, g1⟩, g2⟩, g3⟩, g4⟩, g5⟩, g6⟩, g7⟩ := hg
  exact ⟨⟨⟨⟨⟨⟨⟨g0, by rw [hl]; exact g1⟩, g2⟩, g3⟩, g4⟩, List.all_eq_true.2 hro⟩, List.all_eq_true.2 fun c hc => (hco c hc).2⟩, g7⟩
theorem ridge_ok {L : Lv} (h : L.check = 0) : ∀ x ∈ L.ri, ridgeOK x = true := by
  have hg := Lv.good_of h
  unfold goodL at hg
  simp only [Bool.and_eq_true] at hg
  exact List.all_eq_true.1 hg.1.1.2
theorem case_ok {L : Lv} (h : L.check = 0) : ∀ c ∈ L.ca, fewB c = true ∧ c.all (cloudOK L.su.length) = true := by
  have hg := Lv.good_of h
  unfold goodL at hg
  simp only [Bool.and_eq_true] at hg
  exact fun c hc => ⟨List.all_eq_true.1 (small_of h).2.2.2.2 c hc, List.all_eq_true.1 hg.1.2 c hc⟩
theorem ask_len {L M : Lv} {f t k h : Int} (h0 : M.st.length = L.st.length) (h1 : M.ca.length = L.ca.length) (h2 : M.su.length = L.su.length) : M.ask f t k h = L.ask f t k h := by unfold Lv.ask; rw [h0, h1, h2]
/-- Two lands in which the same walls block between two stations. -/
structure Same (L M : Lv) (f t : Int) : Prop where
  ls : M.st.length = L.st.length
  lr : M.ri.length = L.ri.length
  lc : M.ca.length = L.ca.length
  lu : M.su.length = L.su.length
  z : (rd_T85 M.st f).f2 = (rd_T85 L.st f).f2
  m : (rd_T85 M.st f).f3 = (rd_T85 L.st f).f3
  ri : ∀ i n : Int, 0 ≤ i → i < L.ri.length → blocksB (rd_T86 M.ri i) (upS (rd_T85 M.st f) n) (rd_T85 M.st t) = blocksB (rd_T86 L.ri i) (upS (rd_T85 L.st f) n) (rd_T85 L.st t)
  cl : ∀ k : Int, 0 ≤ k → k < L.ca.length → (rd_L9 M.ca k).length = (rd_L9 L.ca k).length ∧ ∀ h i : Int, 0 ≤ i → i < (rd_L9 L.ca k).length → clB M f t k h i = clB L f t k h i
  su : ∀ h : Int, 0 ≤ h → h < L.su.length → (rd_T99 M.su h).f2 = (rd_T99 L.su h).f2 ∧ mirrorsF (rd_T85 M.st f) (rd_T85 M.st t) (rd_T99 M.su h) = mirrorsF (rd_T85 L.st f) (rd_T85 L.st t) (rd_T99 L.su h)
section
variable {L M : Lv} {f t k h : Int}
theorem Same.ridgesU (S : Same L M f t) (n : Int) : ridgesU M (rd_T85 M.st f) (rd_T85 M.st t) n = ridgesU L (rd_T85 L.st f) (rd_T85 L.st t) n := by
  unfold G.ridgesU
  rw [S.lr]
  refine List.filter_congr fun i hi => ?_
  obtain ⟨j, hj, rfl⟩ := List.mem_map.1 hi
  rw [List.mem_range] at hj
  exact S.ri _ n (by simp) (by simp; omega)
theorem Same.ridges (S : Same L M f t) : ridgesL M f t = ridgesL L f t := by rw [ridges_up, ridges_up, S.ridgesU]
theorem Same.free (S : Same L M f t) : freeB M (rd_T85 M.st f) (rd_T85 M.st t) = freeB L (rd_T85 L.st f) (rd_T85 L.st t) := by
  funext n
  rw [Bool.eq_iff_iff, ← ridgesU_nil, ← ridgesU_nil, S.ridgesU]
theorem Same.clouds (S : Same L M f t) (h0 : 0 ≤ k) (h1 : k < L.ca.length) : cloudsL M f t k h = cloudsL L f t k h := by
  obtain ⟨e, hb⟩ := S.cl k h0 h1
  unfold cloudsL clK
  rw [e]
  refine List.filter_congr fun i hi => ?_
  obtain ⟨j, hj, rfl⟩ := List.mem_map.1 hi
  rw [List.mem_range] at hj
  exact hb h _ (by simp) (by simp; omega)
theorem Same.why (S : Same L M f t) (h0 : 0 ≤ k) (h1 : k < L.ca.length) (g0 : 0 ≤ h) (g1 : h < L.su.length) : whyF M f t k h = whyF L f t k h := by
  unfold whyF
  rw [S.ridges, S.clouds h0 h1, (S.su h g0 g1).1, (S.su h g0 g1).2, S.m]
theorem Same.can (S : Same L M f t) (h0 : 0 ≤ k) (h1 : k < L.ca.length) (g0 : 0 ≤ h) (g1 : h < L.su.length) : canF M f t k h = canF L f t k h := by
  unfold canF
  rw [S.why h0 h1 g0 g1]
/-- What alike asks of two lands. -/
structure Agree (L M : Lv) (f t : Int) : Prop where
  al : (alwaysE L f t).2 = 0 ∧ alwaysE M f t = alwaysE L f t
  ri : riseE M f t = riseE L f t
  wa : ∀ k h : Int, 0 ≤ k → k < L.ca.length → 0 ≤ h → h < L.su.length → (wallsE L f t k h).2.2 = 0 ∧ wallsE M f t k h = wallsE L f t k h ∧ (whyE L f t k h).2.2 = 0 ∧ whyE M f t k h = whyE L f t k h
theorem Same.agree (S : Same L M f t) (cL : L.check = 0) (cM : M.check = 0) (hA : ∀ k h : Int, 0 ≤ k → k < L.ca.length → 0 ≤ h → h < L.su.length → L.ask f t k h = 0) (hc : 0 < L.ca.length) (hu : 0 < L.su.length) : Agree L M f t := by
  have hm : ∀ k h : Int, M.ask f t k h = L.ask f t k h := fun k h => ask_len S.ls S.lc S.lu
  have a0 := hA 0 0 (by omega) (by omega) (by omega) (by omega)
  refine ⟨?_, rise_same S.z S.free cM cL (by rw [hm]; exact a0) a0, fun k h k0 k1 h0 h1 => ?_⟩
  · rw [always_list cL a0, always_list cM (by rw [hm]; exact a0), S.lu]
    refine ⟨rfl, ?_⟩
    congr 1
    refine filK_congr fun h h0 h1 => ?_
    rw [Bool.eq_iff_iff, allK_iff, allK_iff, S.lc]
    exact ⟨fun q i i0 i1 => by have := q i i0 i1; rwa [S.can i0 i1 h0 h1] at this, fun q i i0 i1 => by rw [S.can i0 i1 h0 h1]; exact q i i0 i1⟩
  · have a := hA k h k0 k1 h0 h1
    rw [walls_ok cL a, walls_ok cM (by rw [hm]; exact a), why_ok cL a, why_ok cM (by rw [hm]; exact a), S.ridges, S.clouds k0 k1, S.why k0 k1 h0 h1]
    exact ⟨rfl, rfl, rfl, rfl⟩
end
end Go.Proofs.Ytkbdphjnpieceaa.G
