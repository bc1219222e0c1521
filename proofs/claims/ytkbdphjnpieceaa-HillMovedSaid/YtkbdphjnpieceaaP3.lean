/- A station of a land is changed: what stays. -/
import Derived.Test.YtkbdphjnpieceaaL9
namespace Go.Proofs.Ytkbdphjnpieceaa.G
open Go.RowKit Go.Proofs.YtkbdphjnpieceaaW.PrintWords Go.Proofs.YtkbdphjnpieceaaW.PrintLast Go.Proofs.YtkbdphjnpieceaaW.PrintMore
set_option linter.unusedVariables false
set_option linter.unusedSimpArgs false
theorem mem_filK {p : Int → Bool} {n : Nat} {x : Int} : x ∈ filK p n ↔ 0 ≤ x ∧ x < n ∧ p x = true := by
  unfold filK
  rw [List.mem_filter, List.mem_map]
  constructor
  · rintro ⟨⟨j, hj, rfl⟩, hp⟩
    rw [List.mem_range] at hj
    exact ⟨by simp, by simp; omega, hp⟩
  · rintro ⟨h0, h1, hp⟩
    exact ⟨⟨x.toNat, by rw [List.mem_range]; omega, by simp; omega⟩, hp⟩
theorem within_one {p : Int → Bool} {n : Nat} {t : Int} (h0 : 0 ≤ t) (h1 : t < n) : withinB [t] (filK p n) = p t := by
  rw [Bool.eq_iff_iff, withinB_iff]
  simp only [List.mem_singleton, forall_eq, mem_filK]
  exact ⟨fun h => h.2.2, fun h => ⟨h0, h1, h⟩⟩
theorem within_fil {p q : Int → Bool} {n : Nat} (h : ∀ i : Int, 0 ≤ i → i < n → p i = true → q i = true) : withinB (filK p n) (filK q n) = true := by
  rw [withinB_iff]
  intro x hx
  rw [mem_filK] at hx ⊢
  exact ⟨hx.1, hx.2.1, h x hx.1 hx.2.1 hx.2.2⟩
theorem allK_at {p : Int → Bool} {n : Nat} (h : allK p n = true) {i : Int} (h0 : 0 ≤ i) (h1 : i < n) : p i = true := by
  unfold allK at h
  rw [List.all_eq_true] at h
  have := h i.toNat (by rw [List.mem_range]; omega)
  rwa [Int.toNat_of_nonneg h0] at this
theorem stickK_spec {L : Lv} {f t h : Int} : ∀ (d k : Nat), (∀ j : Int, (k : Int) ≤ j → j < stickK L f t h d k → canF L f t j h = true) ∧ (stickK L f t h d k < (k + d : Nat) → canF L f t (stickK L f t h d k) h = false) := by
  intro d
  induction d with
  | zero => intro k; exact ⟨fun j h1 h2 => by simp only [stickK] at h2; omega, fun h1 => by simp only [stickK] at h1; omega⟩
  | succ d ih =>
    intro k
    unfold stickK
    by_cases hc : canF L f t k h = true
    · rw [if_pos hc]
      obtain ⟨a, b⟩ := ih (k + 1)
      refine ⟨fun j h1 h2 => ?_, fun h1 => b (by omega)⟩
      by_cases e : j = k
      · rw [e]; exact hc
      · exact a j (by omega) h2
    · rw [if_neg hc]
      exact ⟨fun j h1 h2 => by omega, fun _ => by simpa using hc⟩
theorem stick_spec {L : Lv} {f t h : Int} : (0 ≤ stickF L f t h ∧ stickF L f t h ≤ L.ca.length) ∧ (∀ j : Int, 0 ≤ j → j < stickF L f t h → canF L f t j h = true) ∧ (stickF L f t h < L.ca.length → canF L f t (stickF L f t h) h = false) := by
  have h1 := (stickK_all (L := L) (f := f) (t := t) (h := h) L.ca.length 0).2
  have h2 := stickK_spec (L := L) (f := f) (t := t) (h := h) L.ca.length 0
  rw [Nat.zero_add] at h1 h2
  exact ⟨h1, h2⟩
theorem small_of {st : List S85} {ri : List S86} {ca : List (List S88)} {su : List S99} (h : checkF st ri ca su = 0) : smallL st ri ca su := by
  have k : ∀ p : Prop, (p → checkF st ri ca su = 3) → ¬ p := fun p hp hc => by rw [hp hc] at h; exact absurd h (by decide)
  refine ⟨k _ fun c => check_big (.inl c), k _ fun c => check_big (.inr (.inl c)), k _ fun c => check_big (.inr (.inr (.inl c))), k _ fun c => check_big (.inr (.inr (.inr (.inl c)))), ?_⟩
  have := k _ fun c : ca.all fewB = false => check_big (.inr (.inr (.inr (.inr c))))
  simpa using this
/-- The stations put in others' place. -/
theorem check_st {st st' : List S85} {ri : List S86} {ca : List (List S88)} {su : List S99} (h : checkF st ri ca su = 0) (hl : st'.length = st.length) (ho : st'.all stOK = true) (hap : apartB st' = true) : checkF st' ri ca su = 0 := by
  obtain ⟨s0, s1, s2, s3, s4⟩ := small_of h
  have hg : goodL st ri ca su = true := Lv.good_of (L := ⟨st, ri, ca, su, none, none, none, none, 0, 0, 0, 0⟩) h
  rw [check_good ⟨by rw [hl]; exact s0, s1, s2, s3, s4⟩, if_pos]
  unfold goodL at hg ⊢
  simp only [Bool.and_eq_true] at hg ⊢
  obtain ⟨⟨⟨⟨⟨⟨⟨g0, g1⟩, g2⟩, g3⟩, g4⟩, g5⟩, g6⟩, g7⟩ := hg
  exact ⟨⟨⟨⟨⟨⟨⟨by rw [hl]; exact g0, g1⟩, g2⟩, ho⟩, hap⟩, g5⟩, g6⟩, g7⟩
theorem getD_set_ {α : Type} (xs : List α) (i j : Nat) (x z : α) : (xs.set i x).getD j z = if i = j ∧ j < xs.length then x else xs.getD j z := by
  simp only [List.getD_eq_getElem?_getD, List.getElem?_set]
  by_cases h : i = j
  · subst h
    by_cases hl : i < xs.length
    · simp [hl]
    · simp [hl, List.getElem?_eq_none (Nat.le_of_not_lt hl)]
  · simp [h]
theorem rd_set {xs : List S85} {a i : Int} (ha : 0 ≤ a) (ha1 : a < xs.length) (hi : 0 ≤ i) (x : S85) : rd_T85 (xs.set a.toNat x) i = if i = a then x else rd_T85 xs i := by
  unfold rd_T85
  rw [getD_set_]
  by_cases h : i = a
  · subst h
    rw [if_pos ⟨rfl, by omega⟩, if_pos rfl]
  · rw [if_neg (fun c => h (by omega)), if_neg h]
/-- A station moved nowhere. -/
structure Stay (x y : S85) : Prop where
  p0 : x.f0 = y.f0
  p1 : x.f1 = y.f1
theorem apart_stay {st st' : List S85} (hl : st'.length = st.length) (h : ∀ j : Nat, Stay (st'.getD j z85) (st.getD j z85)) : apartB st' = apartB st := by
  have hs : ∀ i j : Nat, samePl (st'.getD j z85) (st'.getD i z85) = samePl (st.getD j z85) (st.getD i z85) := by
    intro i j
    unfold samePl
    rw [(h i).p0, (h i).p1, (h j).p0, (h j).p1]
  unfold apartB
  rw [hl]
  simp only [hs]
theorem all_set {st : List S85} {i : Nat} {x : S85} (h : st.all stOK = true) (hx : stOK x = true) : (st.set i x).all stOK = true := by
  rw [List.all_eq_true] at h ⊢
  intro y hy
  rcases List.mem_or_eq_of_mem_set hy with h1 | h1
  · exact h y h1
  · rw [h1]; exact hx
/-- One station is changed, and stays at its place. -/
theorem check_set {L : Lv} {a : Int} {x : S85} (h : L.check = 0) (ha : 0 ≤ a) (ha1 : a < L.st.length) (hx : stOK x = true) (p0 : x.f0 = (rd_T85 L.st a).f0) (p1 : x.f1 = (rd_T85 L.st a).f1) : checkF (L.st.set a.toNat x) L.ri L.ca L.su = 0 := by
  have hg := Lv.good_of h
  unfold goodL at hg
  simp only [Bool.and_eq_true] at hg
  obtain ⟨⟨⟨⟨⟨⟨⟨g0, g1⟩, g2⟩, g3⟩, g4⟩, g5⟩, g6⟩, g7⟩ := hg
  refine check_st h (List.length_set ..) (all_set g3 hx) ?_
  rw [apart_stay (st := L.st) (List.length_set ..) fun j => ?_]
  · exact g4
  · rw [getD_set_]
    split
    · rename_i hc
      obtain ⟨rfl, _⟩ := hc
      exact ⟨p0, p1⟩
    · exact ⟨rfl, rfl⟩
theorem stOK_at {L : Lv} (h : L.check = 0) {i : Int} (h0 : 0 ≤ i) (h1 : i < L.st.length) : stOK (rd_T85 L.st i) = true := by
  have hg := Lv.good_of h
  unfold goodL at hg
  simp only [Bool.and_eq_true] at hg
  have g3 := hg.1.1.1.1.2
  rw [List.all_eq_true] at g3
  refine g3 _ ?_
  unfold rd_T85
  rw [List.getD_eq_getElem?_getD, List.getElem?_eq_getElem (by omega : i.toNat < L.st.length)]
  exact List.getElem_mem _
theorem cases_few {R : Rv} (h : R.lv.check = 0) : ∀ c ∈ R.ca, c.length ≤ 64 := by
  intro c hc
  have h4 := (small_of h).2.2.2.2
  rw [List.all_eq_true] at h4
  have := h4 (c.map cCl) (List.mem_map.2 ⟨c, hc, rfl⟩)
  unfold fewB at this
  rw [List.length_map] at this
  have := of_decide_eq_true this
  omega
/-- A wall looks at places and heights alone. -/
theorem block_see (x : S86) {s t s' t' : S85} (a0 : s'.f0 = s.f0) (a1 : s'.f1 = s.f1) (a2 : s'.f2 = s.f2) (b0 : t'.f0 = t.f0) (b1 : t'.f1 = t.f1) (b2 : t'.f2 = t.f2) : blocksB x s' t' = blocksB x s t := by
  unfold blocksB
  rw [a0, a1, a2, b0, b1, b2]
theorem mir_see {s t s' t' : S85} (u : S99) (a0 : s'.f0 = s.f0) (a1 : s'.f1 = s.f1) (b0 : t'.f0 = t.f0) (b1 : t'.f1 = t.f1) : mirrorsF s' t' u = mirrorsF s t u := by
  unfold mirrorsF
  rw [a0, a1, b0, b1]
/-- With two mirrors a station reaches no less. -/
theorem can_two {L L' : Lv} {a : Int} {x : S85} (hs : L'.st = L.st.set a.toNat x) (hr : L'.ri = L.ri) (hc : L'.ca = L.ca) (hu : L'.su = L.su) (ha : 0 ≤ a) (ha1 : a < L.st.length) (x0 : x.f0 = (rd_T85 L.st a).f0) (x1 : x.f1 = (rd_T85 L.st a).f1) (x2 : x.f2 = (rd_T85 L.st a).f2) (x3 : x.f3 = 2)
    {t k h : Int} (ht : 0 ≤ t) (hcan : canF L a t k h = true) : canF L' a t k h = true := by
  unfold canF at hcan ⊢
  simp only [Bool.and_eq_true, decide_eq_true_eq] at hcan ⊢
  obtain ⟨hne, hw⟩ := hcan
  refine ⟨hne, ?_⟩
  have ea : rd_T85 L'.st a = x := by rw [hs, rd_set ha ha1 ha, if_pos rfl]
  have et : rd_T85 L'.st t = rd_T85 L.st t := by rw [hs, rd_set ha ha1 ht, if_neg (Ne.symm hne)]
  have es : ∀ y, blocksB y x (rd_T85 L.st t) = blocksB y (rd_T85 L.st a) (rd_T85 L.st t) := fun y => block_see y x0 x1 x2 rfl rfl rfl
  have er : ridgesL L' a t = ridgesL L a t := by unfold ridgesL; rw [hr, ea, et]; simp only [es]
  have ec : cloudsL L' a t k h = cloudsL L a t k h := by unfold cloudsL clK; rw [hc]; congr 1; funext i; unfold clB; rw [hc, ea, et, es]
  have em : mirrorsF x (rd_T85 L.st t) (rd_T99 L.su h) = mirrorsF (rd_T85 L.st a) (rd_T85 L.st t) (rd_T99 L.su h) := mir_see _ x0 x1 rfl rfl
  have m2 := (mirrors_two (rd_T85 L.st a) (rd_T85 L.st t) (rd_T99 L.su h)).1
  unfold whyF at hw ⊢
  rw [hu, ea, et, er, ec, em, x3]
  by_cases n : (rd_T99 L.su h).f2 ≤ 0
  · rw [if_pos n] at hw; exact absurd hw (by decide)
  rw [if_neg n] at hw ⊢
  rw [if_neg (by omega)]
  by_cases b : (rd_T85 L.st a).f3 < mirrorsF (rd_T85 L.st a) (rd_T85 L.st t) (rd_T99 L.su h)
  · rw [if_pos b] at hw; exact absurd hw (by decide)
  rw [if_neg b] at hw
  exact hw
theorem reach_at {L : Lv} {f t k h : Int} (h0 : L.check = 0) (hA : L.At f t k h) : reachE L f k h = (filK (fun t => canF L f t k h) L.st.length, 0) := by
  obtain ⟨a0, a1, _, _, b0, b1, c0, c1⟩ := hA
  refine reach_ok h0 ?_ ?_ ?_ <;> (unfold inB; simp only [Bool.and_eq_true, decide_eq_true_eq]; omega)
def Rv.two (R : Rv) (a : Int) : S65 := ⟨(rd_T65 R.st a).f0, (rd_T65 R.st a).f1, (rd_T65 R.st a).f2, 2⟩
theorem lv_set (R : Rv) (i : Nat) (x : S65) : (R.st.set i x).map cSt = R.lv.st.set i (cSt x) := by show _ = (R.st.map cSt).set i (cSt x); rw [List.map_set]
/-- What a law asks of a copy with two mirrors. -/
theorem two_x {R X : Rv} {a k h : Int} (hC : R.lv.check = 0) (hF : R.Few) {t : Int} (hA : R.lv.At a t k h) (hs : X.st = R.st.set a.toNat ⟨(rd_T65 R.st a).f0, (rd_T65 R.st a).f1, (rd_T65 R.st a).f2, 2⟩) (hr : X.ri = R.ri) (hc : X.ca = R.ca) (hu : X.su = R.su) :
    X.Few ∧ reachE X.lv a k h = (filK (fun t => canF X.lv a t k h) X.lv.st.length, 0) ∧ withinB (filK (fun t => canF R.lv a t k h) R.lv.st.length) (filK (fun t => canF X.lv a t k h) X.lv.st.length) = true := by
  have e0 : X.lv.st = R.lv.st.set a.toNat (cSt ⟨(rd_T65 R.st a).f0, (rd_T65 R.st a).f1, (rd_T65 R.st a).f2, 2⟩) := by
    show X.st.map cSt = _
    rw [hs]; exact lv_set R _ _
  have e1 : X.lv.ri = R.lv.ri := by show X.ri.map cWl = _; rw [hr]; rfl
  have e2 : X.lv.ca = R.lv.ca := by show X.ca.map (·.map cCl) = _; rw [hc]; rfl
  have e3 : X.lv.su = R.lv.su := by show X.su.map cSu = _; rw [hu]; rfl
  have ha := hA.f0
  have ha2 : a < R.lv.st.length := hA.f1
  have el : X.st.length = R.st.length := by rw [hs, List.length_set]
  have ep := lv_st R a
  have hst := stOK_at hC ha ha2
  rw [ep] at hst
  have hX : X.lv.check = 0 := by
    show checkF X.lv.st X.lv.ri X.lv.ca X.lv.su = 0
    rw [e0, e1, e2, e3]
    refine check_set hC ha ha2 ?_ (by rw [ep]; rfl) (by rw [ep]; rfl)
    unfold stOK at hst ⊢
    simp only [Bool.and_eq_true] at hst ⊢
    exact ⟨hst.1, rfl⟩
  have en : X.lv.st.length = R.lv.st.length := by rw [lv_len0, lv_len0, el]
  refine ⟨⟨by rw [el]; exact hF.s, by rw [hr]; exact hF.r, by rw [hu]; exact hF.u, by rw [hc]; exact hF.c, by rw [hc]; exact hF.cc⟩, reach_at (t := t) hX ?_, ?_⟩
  · obtain ⟨a0, a1, t0, t1, b0, b1, c0, c1⟩ := hA
    exact ⟨a0, by rw [en]; exact a1, t0, by rw [en]; exact t1, b0, by rw [e2]; exact b1, c0, by rw [e3]; exact c1⟩
  · rw [en]
    exact within_fil fun i h0 h1 hcan => can_two e0 e1 e2 e3 ha ha2 (by rw [ep]; rfl) (by rw [ep]; rfl) (by rw [ep]; rfl) rfl h0 hcan
/-- The one way, told by the reason. -/
theorem can_why {L : Lv} {a b k h : Int} (hne : a ≠ b) : canF L a b k h = decide ((whyF L a b k h).1 = 0) := by unfold canF; simp [hne]
theorem can_self {L : Lv} {a k h : Int} : canF L a a k h = false := by unfold canF; simp
/-- The ridges that block with a station n higher. -/
def ridgesU (L : Lv) (s t : S85) (n : Int) : List Int := ((List.range L.ri.length).map Int.ofNat).filter fun i => blocksB (rd_T86 L.ri i) (upS s n) t
theorem rd_in {ri : List S86} {i : Nat} (h : i < ri.length) : rd_T86 ri (i : Int) ∈ ri := by
  unfold rd_T86
  rw [Int.toNat_natCast, List.getD_eq_getElem?_getD, List.getElem?_eq_getElem h]
  exact List.getElem_mem _
theorem ridgesU_nil {L : Lv} {s t : S85} {n : Int} : ridgesU L s t n = [] ↔ freeB L s t n = true := by
  unfold ridgesU freeB
  rw [List.filter_eq_nil_iff, List.all_eq_true]
  constructor
  · intro h x hx
    obtain ⟨i, hi, rfl⟩ := List.mem_iff_getElem.1 hx
    have := h (Int.ofNat i) (List.mem_map.2 ⟨i, List.mem_range.2 hi, rfl⟩)
    have e : rd_T86 L.ri (Int.ofNat i) = L.ri[i] := by
      show L.ri.getD (Int.toNat (Int.ofNat i)) _ = _
      rw [List.getD_eq_getElem?_getD, show Int.toNat (Int.ofNat i) = i from rfl, List.getElem?_eq_getElem hi]
      rfl
    rw [e] at this
    simpa using this
  · intro h y hy
    obtain ⟨i, hi, rfl⟩ := List.mem_map.1 hy
    have := h _ (rd_in (List.mem_range.1 hi))
    simpa using this
theorem ridgesU_sub {L : Lv} {s t : S85} {n : Int} (h0 : 0 ≤ n) (hx : ∀ x ∈ L.ri, x.f4 = 0) (hs : 0 ≤ s.f2) (ht : 0 ≤ t.f2) : ∀ y ∈ ridgesU L s t n, y ∈ ridgesU L s t 0 := by
  unfold ridgesU
  intro y hy
  rw [List.mem_filter] at hy ⊢
  obtain ⟨h1, h2⟩ := hy
  refine ⟨h1, ?_⟩
  obtain ⟨i, hi, rfl⟩ := List.mem_map.1 h1
  exact block_mono (Int.le_refl 0) h0 (hx _ (rd_in (List.mem_range.1 hi))) hs ht h2
theorem ridgesU_len {L : Lv} {s t : S85} {n : Int} (h0 : 0 ≤ n) (hx : ∀ x ∈ L.ri, x.f4 = 0) (hs : 0 ≤ s.f2) (ht : 0 ≤ t.f2) : (ridgesU L s t n).length ≤ (ridgesU L s t 0).length := by
  unfold ridgesU
  rw [← List.countP_eq_length_filter, ← List.countP_eq_length_filter]
  refine List.countP_mono_left fun y hy h => ?_
  obtain ⟨i, hi, rfl⟩ := List.mem_map.1 hy
  exact block_mono (Int.le_refl 0) h0 (hx _ (rd_in (List.mem_range.1 hi))) hs ht h
theorem up_zero (s : S85) : upS s 0 = s := by unfold upS; rw [Int.add_zero]
/-- The rise, by what is free. -/
theorem rise_is {L : Lv} {f t : Int} (hc : L.check = 0) (ha : L.ask f t 0 0 = 0) (hz : (rd_T85 L.st f).f2 ≤ 1000) :
    (riseE L f t = (0, 9) ∧ ∀ m, 0 ≤ m → (rd_T85 L.st f).f2 + m ≤ 1000 → freeB L (rd_T85 L.st f) (rd_T85 L.st t) m = false) ∨
      (∃ n, riseE L f t = (n, 0) ∧ 0 ≤ n ∧ (rd_T85 L.st f).f2 + n ≤ 1000 ∧ freeB L (rd_T85 L.st f) (rd_T85 L.st t) n = true ∧ ∀ m, 0 ≤ m → m < n → freeB L (rd_T85 L.st f) (rd_T85 L.st t) m = false) := by
  have hl := lin_spec (freeB L (rd_T85 L.st f) (rd_T85 L.st t)) (1001 - (rd_T85 L.st f).f2).toNat 0
  have hr := rise_law hc ha
  unfold linR at hr
  rcases hl with ⟨h1, h2⟩ | ⟨h1, h2, h3, h4⟩
  · rcases hr with ⟨_, h⟩ | ⟨h, _⟩
    · exact .inl ⟨h, fun m m0 m1 => h2 m m0 (by omega)⟩
    · omega
  · rcases hr with ⟨h, _⟩ | ⟨h, h'⟩
    · omega
    · exact .inr ⟨_, h', h1, by omega, h3, h4⟩
/-- A land X is R, but for a station a that is higher by n. -/
structure Up (R X : Rv) (a n : Int) : Prop where
  st : X.st = R.st.set a.toNat ⟨(rd_T65 R.st a).f0, (rd_T65 R.st a).f1, (rd_T65 R.st a).f2 + n, (rd_T65 R.st a).f3⟩
  ri : X.ri = R.ri
  ca : X.ca = R.ca
  su : X.su = R.su
theorem up_x {R X : Rv} {a b n : Int} (hX : Up R X a n) (hC : R.lv.check = 0) (hF : R.Few) (hA : R.lv.At a b 0 0) (hne : a ≠ b) (hn : 0 ≤ n) (hn1 : (rd_T65 R.st a).f2 + n ≤ 1000) :
    X.Few ∧ ∃ ys, wallsE X.lv a b 0 0 = (ridgesU R.lv (rd_T85 R.lv.st a) (rd_T85 R.lv.st b) n, ys, 0) := by
  obtain ⟨hs, hr, hc, hu⟩ := hX
  have e0 : X.lv.st = R.lv.st.set a.toNat (upS (rd_T85 R.lv.st a) n) := by
    show X.st.map cSt = _
    rw [hs, lv_set, lv_st]; rfl
  have e1 : X.lv.ri = R.lv.ri := by show X.ri.map cWl = _; rw [hr]; rfl
  have e2 : X.lv.ca = R.lv.ca := by show X.ca.map (·.map cCl) = _; rw [hc]; rfl
  have e3 : X.lv.su = R.lv.su := by show X.su.map cSu = _; rw [hu]; rfl
  have ha := hA.f0
  have ha2 : a < R.lv.st.length := hA.f1
  have el : X.st.length = R.st.length := by rw [hs, List.length_set]
  have en : X.lv.st.length = R.lv.st.length := by rw [lv_len0, lv_len0, el]
  have hst := stOK_at hC ha ha2
  have hz : (rd_T85 R.lv.st a).f2 = (rd_T65 R.st a).f2 := by rw [lv_st]; rfl
  have hck : X.lv.check = 0 := by
    show checkF X.lv.st X.lv.ri X.lv.ca X.lv.su = 0
    rw [e0, e1, e2, e3]
    refine check_set hC ha ha2 ?_ rfl rfl
    unfold stOK inB at hst ⊢
    simp only [Bool.and_eq_true, decide_eq_true_eq, upS] at hst ⊢
    have z0 : 0 ≤ (rd_T85 R.lv.st a).f2 + n := by omega
    have z1 : (rd_T85 R.lv.st a).f2 + n ≤ 1000 := by omega
    exact ⟨⟨hst.1.1, decide_eq_true z0, decide_eq_true z1⟩, decide_eq_true hst.2.1, decide_eq_true hst.2.2⟩
  refine ⟨⟨by rw [el]; exact hF.s, by rw [hr]; exact hF.r, by rw [hu]; exact hF.u, by rw [hc]; exact hF.c, by rw [hc]; exact hF.cc⟩, ?_⟩
  have hask : X.lv.ask a b 0 0 = 0 := by
    obtain ⟨a0, a1, t0, t1, b0, b1, c0, c1⟩ := hA
    exact ask_mk ⟨a0, by rw [en]; exact a1, t0, by rw [en]; exact t1, b0, by rw [e2]; exact b1, c0, by rw [e3]; exact c1⟩ hne
  rw [walls_ok hck hask]
  have er : ridgesL X.lv a b = ridgesU R.lv (rd_T85 R.lv.st a) (rd_T85 R.lv.st b) n := by
    unfold ridgesL ridgesU
    rw [e1, e0, rd_set ha ha2 ha, if_pos rfl, rd_set ha ha2 hA.t0, if_neg (Ne.symm hne)]
  rw [er]
  exact ⟨_, rfl⟩
theorem ridges_up {L : Lv} {a b : Int} : ridgesL L a b = ridgesU L (rd_T85 L.st a) (rd_T85 L.st b) 0 := by unfold ridgesL ridgesU; rw [up_zero]
theorem st_z {R : Rv} (hC : R.lv.check = 0) {a : Int} (h0 : 0 ≤ a) (h1 : a < R.st.length) : 0 ≤ (rd_T65 R.st a).f2 ∧ (rd_T65 R.st a).f2 ≤ 1000 := by
  have h := stOK_at hC h0 (by rw [lv_len0]; exact h1)
  rw [lv_st] at h
  unfold stOK inB at h
  simp only [Bool.and_eq_true, decide_eq_true_eq] at h
  exact h.1.2
end Go.Proofs.Ytkbdphjnpieceaa.G
