/- Contracts of the exported hill.Why, hill.Mirrors, hill.Stick. -/
import Derived.Test.YtkbdphjnpieceaaH12
namespace Go.Proofs.Ytkbdphjnpieceaa.G
open Go.RowKit Go.Proofs.YtkbdphjnpieceaaW.PrintWords Go.Proofs.YtkbdphjnpieceaaW.PrintLast Go.Proofs.YtkbdphjnpieceaaW.PrintMore
open Go.Sort (grow)
set_option linter.unusedVariables false
set_option linter.unusedSimpArgs false

theorem rd_mem {α : Type} (l : List α) (z : α) (i : Int) (h0 : 0 ≤ i) (h1 : i < l.length) : l.getD i.toNat z ∈ l := by
  have : i.toNat < l.length := by omega
  rw [List.getD_eq_getElem?_getD, List.getElem?_eq_getElem this]
  exact List.getElem_mem _
theorem inB_iff {n lo hi : Int} : inB n lo hi = true ↔ lo ≤ n ∧ n ≤ hi := by simp [inB]
theorem okSt_of {s : S85} (h : stOK s = true) : okSt s := by
  simp only [stOK, onB, Bool.and_eq_true, inB_iff] at h
  exact ⟨h.1.1.1, h.1.1.2, h.1.2⟩
theorem okWl_of {x : S86} (h : wallOK x = true) : okWl x := by
  simp only [wallOK, onB, Bool.and_eq_true, inB_iff, decide_eq_true_eq] at h
  exact ⟨h.1.1.1.1.1, h.1.1.1.1.2, h.1.1.1.2.1, h.1.1.1.2.2, ⟨h.1.2.1, by omega⟩, ⟨by omega, h.2⟩⟩
theorem Lv.ok_of {L : Lv} (h : L.check = 0) : L.Ok := by
  unfold Lv.check checkF at h
  have h1 : ¬ (6 < (L.st.length : Int)) := fun c => by rw [if_pos c] at h; exact absurd h (by decide)
  rw [if_neg h1] at h
  have h2 : ¬ (6 < (L.ri.length : Int)) := fun c => by rw [if_pos c] at h; exact absurd h (by decide)
  rw [if_neg h2] at h
  have h3 : ¬ (4 < (L.ca.length : Int)) := fun c => by rw [if_pos c] at h; exact absurd h (by decide)
  rw [if_neg h3] at h
  have h4 : ¬ (12 < (L.su.length : Int)) := fun c => by rw [if_pos c] at h; exact absurd h (by decide)
  rw [if_neg h4] at h
  have h5 : ¬ (L.ca.all fewB = false) := fun c => by rw [if_pos c] at h; exact absurd h (by decide)
  rw [if_neg h5] at h
  have h6 : ¬ ((L.st.length : Int) = 0) := fun c => by rw [if_pos c] at h; exact absurd h (by decide)
  rw [if_neg h6] at h
  have h7 : ¬ ((L.ca.length : Int) = 0) := fun c => by rw [if_pos c] at h; exact absurd h (by decide)
  rw [if_neg h7] at h
  have h8 : ¬ ((L.su.length : Int) = 0) := fun c => by rw [if_pos c] at h; exact absurd h (by decide)
  rw [if_neg h8] at h
  have h9 : ¬ (L.st.all stOK = false) := fun c => by rw [if_pos c] at h; exact absurd h (by decide)
  rw [if_neg h9] at h
  have h10 : ¬ (apartB L.st = false) := fun c => by rw [if_pos c] at h; exact absurd h (by decide)
  rw [if_neg h10] at h
  have h11 : ¬ (L.ri.all ridgeOK = false) := fun c => by rw [if_pos c] at h; exact absurd h (by decide)
  rw [if_neg h11] at h
  have h12 : ¬ ((L.ca.all fun k => k.all (cloudOK L.su.length)) = false) := fun c => by rw [if_pos c] at h; exact absurd h (by decide)
  rw [if_neg h12] at h
  have h13 : ¬ (L.su.all sunOK = false) := fun c => by rw [if_pos c] at h; exact absurd h (by decide)
  rw [if_neg h13] at h
  simp only [Bool.not_eq_false, List.all_eq_true] at h5 h9 h11 h12 h13
  have hcl : ∀ k : Int, rd_L9 L.ca k ∈ L.ca ∨ rd_L9 L.ca k = [] := fun k => by
    unfold rd_L9
    rw [List.getD_eq_getElem?_getD]
    cases hg : L.ca[k.toNat]? with
    | none => exact .inr rfl
    | some x => exact .inl (List.mem_of_getElem? hg)
  refine ⟨by omega, by omega, by omega, by omega, fun k => ?_, fun i h0 h1 => okSt_of (h9 _ (rd_mem _ _ i h0 h1)), fun i hi => ?_, fun k i hi => ?_, fun i h0 h1 => ?_⟩
  · rcases hcl k with hm | hm
    · have := h5 _ hm
      simp only [fewB, decide_eq_true_eq] at this
      omega
    · rw [hm]; simp
  · have := h11 _ (rd_mem L.ri z86 i (by omega) (by omega))
    simp only [ridgeOK, Bool.and_eq_true] at this
    exact okWl_of this.1
  · rcases hcl k with hm | hm
    · have h1 := h12 _ hm
      have := h1 _ (rd_mem (rd_L9 L.ca k) z88 i (by omega) (by omega))
      simp only [cloudOK, Bool.and_eq_true] at this
      exact okWl_of this.1.1
    · rw [hm] at hi; simp at hi
  · have := h13 _ (rd_mem L.su z99 i h0 h1)
    simp only [sunOK, Bool.and_eq_true, inB_iff] at this
    exact this.1
def Lv.ask (L : Lv) (f t k h : Int) : Int := askF L.st.length L.ca.length L.su.length f t k h
theorem ask_ok {n c s : Nat} {f t k h : Int} (h0 : askF n c s f t k h = 0) : ((0 ≤ f ∧ f < n) ∧ (0 ≤ t ∧ t < n) ∧ (0 ≤ k ∧ k < c) ∧ 0 ≤ h ∧ h < s) ∧ f ≠ t := by
  unfold askF at h0
  have h1 : ¬ (inB f 0 ((n : Int) - 1) = false) := fun c => by rw [if_pos c] at h0; exact absurd h0 (by decide)
  rw [if_neg h1] at h0
  have h2 : ¬ (inB t 0 ((n : Int) - 1) = false) := fun c => by rw [if_pos c] at h0; exact absurd h0 (by decide)
  rw [if_neg h2] at h0
  have h3 : ¬ (inB k 0 ((c : Int) - 1) = false) := fun c => by rw [if_pos c] at h0; exact absurd h0 (by decide)
  rw [if_neg h3] at h0
  have h4 : ¬ (inB h 0 ((s : Int) - 1) = false) := fun c => by rw [if_pos c] at h0; exact absurd h0 (by decide)
  rw [if_neg h4] at h0
  have h5 : ¬ (f = t) := fun c => by rw [if_pos c] at h0; exact absurd h0 (by decide)
  rw [if_neg h5] at h0
  simp only [Bool.not_eq_false, inB_iff] at h1 h2 h3 h4
  exact ⟨⟨⟨by omega, by omega⟩, ⟨by omega, by omega⟩, ⟨by omega, by omega⟩, by omega, by omega⟩, h5⟩

/-- hill.Why. -/
def whyE (L : Lv) (f t k h : Int) : Int × Int × Int :=
  if L.check ≠ 0 then (0, 0, L.check) else if L.ask f t k h ≠ 0 then (0, 0, L.ask f t k h) else ((whyF L f t k h).1, (whyF L f t k h).2, 0)

set_option maxHeartbeats 1000000 in
theorem Why_c (L : Lv) (f t k h : Int) (w : World) (hI : L.In w) :
    Calls Try.prog 38 #[.agg #[.slice L.A0 L.st.length L.c0, .slice L.A1 L.ri.length L.c1, .slice L.A2 L.ca.length L.c2, .slice L.A3 L.su.length L.c3], .int .i64 f, .int .i64 t, .int .i64 k, .int .i64 h] w
      fun e w' => e = .returned (.tuple #[.int .u8 (whyE L f t k h).1, .int .i64 (whyE L f t k h).2.1, .int .i64 (whyE L f t k h).2.2]) ∧ Below w.heap.size w w' := by
  have HI := Aside0.mk hI
  have hl0 := hI.r0.2.1
  have hl2 := hI.r2.2.1
  have hl3 := hI.r3.2.1
  clear hI
  have HE : Aside0 (whyE L f t k h = if L.check ≠ 0 then (0, 0, L.check) else if L.ask f t k h ≠ 0 then (0, 0, L.ask f t k h) else ((whyF L f t k h).1, (whyF L f t k h).2, 0)) := ⟨rfl⟩
  go_enter Try.func38, Try.ntmps38
  go_wp2_with fail
  refine (work_c L _ (HI.out.below (b1 _ _))).mono ?_
  rintro e w1 ⟨hb1, ⟨hk, rfl⟩ | ⟨hk, g, mb, rfl, hg, hm, hW⟩⟩
  · have HB := Aside0.mk (bt (b1 _ _) hb1)
    have HK := Aside0.mk hk
    generalize L.check = c at *
    go_wp2_with fail
    ((try simp only [Exit.inBlock, Exit.then]); refine bodyPost_ret (results_tmp3 rfl _ _ _) rfl ?_)
    exact ⟨by rw [HE.out, if_pos HK.out]; rfl, HB.out⟩
  · have HK := Aside0.mk hk
    have HB := Aside0.mk (bt (b1 w (.cells #[.slice L.A0 L.st.length L.c0, .slice L.A1 L.ri.length L.c1, .slice L.A2 L.ca.length L.c2, .slice L.A3 L.su.length L.c3] 39)) hb1)
    have d0 := cb hb1 (cnew (w := w) (cs := #[.slice L.A0 L.st.length L.c0, .slice L.A1 L.ri.length L.c1, .slice L.A2 L.ca.length L.c2, .slice L.A3 L.su.length L.c3]) (t := 39) (i := 0) rfl rfl)
    have d1 := cb hb1 (cnew (w := w) (cs := #[.slice L.A0 L.st.length L.c0, .slice L.A1 L.ri.length L.c1, .slice L.A2 L.ca.length L.c2, .slice L.A3 L.su.length L.c3]) (t := 39) (i := 1) rfl rfl)
    have d2 := cb hb1 (cnew (w := w) (cs := #[.slice L.A0 L.st.length L.c0, .slice L.A1 L.ri.length L.c1, .slice L.A2 L.ca.length L.c2, .slice L.A3 L.su.length L.c3]) (t := 39) (i := 2) rfl rfl)
    have d3 := cb hb1 (cnew (w := w) (cs := #[.slice L.A0 L.st.length L.c0, .slice L.A1 L.ri.length L.c1, .slice L.A2 L.ca.length L.c2, .slice L.A3 L.su.length L.c3]) (t := 39) (i := 3) rfl rfl)
    simp only [World.size_alloc] at hg hm
    have HW := Aside0.mk hW
    have hsz := hb1.size
    simp only [World.size_alloc] at hsz
    clear hb1 hk hW
    have hne : w.heap.size ≠ w1.heap.size := by omega
    have hlt : w.heap.size < w1.heap.size := by omega
    go_wp2_with fail
    have HA : Aside0 (L.ask f t k h = askF L.st.length L.ca.length L.su.length f t k h) := ⟨rfl⟩
    refine (asked_c L.A0 L.A1 L.A2 L.A3 _ _ _ _ L.c0 L.c1 L.c2 L.c3 hl0 hl2 hl3 f t k h _).mono ?_
    rintro e w2 ⟨rfl, hb2⟩
    by_cases hak : askF L.st.length L.ca.length L.su.length f t k h = 0
    · have hp := blk_below (blk_new w1 (.cells #[.int .i64 f, .int .i64 t] 95)) hb2
      have p0 := (blk_cell hp 0).trans rfl
      have p1 := (blk_cell hp 1).trans rfl
      have hb3 := bt (b1 w1 (.cells #[.int .i64 f, .int .i64 t] 95)) hb2
      have HB3 := Aside0.mk hb3
      have HAK := Aside0.mk (And.intro hak (ask_ok hak))
      clear hb2 hp hb3
      rw [hak]
      clear hak
      go_wp2_with fail
      obtain ⟨hak, ⟨⟨a1, a2⟩, ⟨a3, a4⟩, ⟨a5, a6⟩, a7, a8⟩, a9⟩ := HAK.out
      refine (why_c L g mb 0 f t k h _ (fun _ _ => trivial) (HW.out.below HB3.out) (Lv.ok_of HK.out) (by decide) a1 a2 a3 a4 a5 a6 a7 a8).mono ?_
      rintro e w3 ⟨rfl, hW3, hg3⟩
      have HG := Aside0.mk hg3
      clear hW3 hg3 hak a1 a2 a3 a4 a5 a6 a7 a8 a9
      have HE' : Aside0 (whyE L f t k h = ((whyF L f t k h).1, (whyF L f t k h).2, 0)) := ⟨by rw [HE.out, if_neg (by rw [HK.out]; decide), if_neg (by rw [HA.out, HAK.out.1]; decide)]⟩
      generalize whyF L f t k h = r at *
      go_wp2_with fail
      ((try simp only [Exit.inBlock, Exit.then]); refine bodyPost_ret (results_tmp3 rfl _ _ _) rfl ?_)
      exact ⟨by rw [HE'.out]; rfl, Below.grown (bt HB.out HB3.out) HG.out (Nat.le_trans HB.out.size HB3.out.size) (fun k e => by injection e with e; omega)⟩
    · have HAK := Aside0.mk hak
      have HB3 := Aside0.mk (bt (b1 w1 (.cells #[.int .i64 f, .int .i64 t] 95)) hb2)
      clear hb2
      have HE' : Aside0 (whyE L f t k h = (0, 0, askF L.st.length L.ca.length L.su.length f t k h)) := ⟨by rw [HE.out, if_neg (by rw [HK.out]; decide), if_pos (by rw [HA.out]; exact HAK.out), HA.out]⟩
      generalize askF L.st.length L.ca.length L.su.length f t k h = ak at *
      go_wp2_with fail
      ((try simp only [Exit.inBlock, Exit.then]); refine bodyPost_ret (results_tmp3 rfl _ _ _) rfl ?_)
      exact ⟨by rw [HE'.out]; rfl, bt HB.out HB3.out⟩

end Go.Proofs.Ytkbdphjnpieceaa.G
