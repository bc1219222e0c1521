/- Contracts of the exported hill.Hours, hill.Always. Printed by gen_h18.py. -/
import Derived.Test.YtkbdphjnpieceaaH17
namespace Go.Proofs.Ytkbdphjnpieceaa.G
open Go.RowKit Go.Proofs.YtkbdphjnpieceaaW.PrintWords Go.Proofs.YtkbdphjnpieceaaW.PrintLast Go.Proofs.YtkbdphjnpieceaaW.PrintMore
open Go.Sort (grow)
set_option linter.unusedVariables false
set_option linter.unusedSimpArgs false

/-- hill.Hours. -/
def hoursE (L : Lv) (f t k : Int) : List Int × Int :=
  if L.check ≠ 0 then ([], L.check) else if L.ask f t k 0 ≠ 0 then ([], L.ask f t k 0) else (filK (fun h => canF L f t k h) L.su.length, 0)
/-- hill.Always. -/
def alwaysE (L : Lv) (f t : Int) : List Int × Int :=
  if L.check ≠ 0 then ([], L.check) else if L.ask f t 0 0 ≠ 0 then ([], L.ask f t 0 0) else (filK (fun h => decide (stickF L f t h = L.ca.length)) L.su.length, 0)

set_option maxHeartbeats 1000000 in
theorem Hours_c (L : Lv) (f t k : Int) (w : World) (hI : L.In w) :
    Calls Try.prog 33 #[.agg #[.slice L.A0 L.st.length L.c0, .slice L.A1 L.ri.length L.c1, .slice L.A2 L.ca.length L.c2, .slice L.A3 L.su.length L.c3], .int .i64 f, .int .i64 t, .int .i64 k] w
      fun e w' => ∃ v : Value, e = .returned (.tuple #[v, .int .i64 (hoursE L f t k).2]) ∧ Kd.R (Kd.int .i64) 3 w' w.heap.size (fun _ => True) v (hoursE L f t k).1 ∧ Below w.heap.size w w' := by
  have HI := Aside0.mk hI
  have hl0 := hI.r0.2.1
  have hl2 := hI.r2.2.1
  have hl3 := hI.r3.2.1
  clear hI
  have HE : Aside0 (hoursE L f t k = if L.check ≠ 0 then ([], L.check) else if L.ask f t k 0 ≠ 0 then ([], L.ask f t k 0) else (filK (fun h => canF L f t k h) L.su.length, 0)) := ⟨rfl⟩
  go_enter Try.func33, Try.ntmps33
  go_wp2_with fail
  refine (work_c L _ (HI.out.below (below_alloc (b1 w (.cells #[.slice L.A0 L.st.length L.c0, .slice L.A1 L.ri.length L.c1, .slice L.A2 L.ca.length L.c2, .slice L.A3 L.su.length L.c3] 39)) (.cells #[.int .i64 k] 3)))).mono ?_
  rintro e w1 ⟨hb1, ⟨hk, rfl⟩ | ⟨hk, g, mb, rfl, hg, hm, hW⟩⟩
  · have HB := Aside0.mk (bt (below_alloc (b1 w (.cells #[.slice L.A0 L.st.length L.c0, .slice L.A1 L.ri.length L.c1, .slice L.A2 L.ca.length L.c2, .slice L.A3 L.su.length L.c3] 39)) (.cells #[.int .i64 k] 3)) hb1)
    have HK := Aside0.mk hk
    generalize L.check = c at *
    go_wp2_with fail
    ((try simp only [Exit.inBlock, Exit.then]); refine bodyPost_ret (results_tmp2 rfl _ _ _) rfl ?_)
    exact ⟨.slice none 0 0, by rw [HE.out, if_pos HK.out]; rfl, by rw [HE.out, if_pos HK.out]; exact Kd.R_nil _ _ _ _ _, below_alloc HB.out _⟩
  · have HK := Aside0.mk hk
    have HB := Aside0.mk (bt (below_alloc (b1 w (.cells #[.slice L.A0 L.st.length L.c0, .slice L.A1 L.ri.length L.c1, .slice L.A2 L.ca.length L.c2, .slice L.A3 L.su.length L.c3] 39)) (.cells #[.int .i64 k] 3)) hb1)
    have d0 := cb hb1 (cb (b1 _ _) (cnew (w := w) (cs := #[.slice L.A0 L.st.length L.c0, .slice L.A1 L.ri.length L.c1, .slice L.A2 L.ca.length L.c2, .slice L.A3 L.su.length L.c3]) (t := 39) (i := 0) rfl rfl))
    have d1 := cb hb1 (cb (b1 _ _) (cnew (w := w) (cs := #[.slice L.A0 L.st.length L.c0, .slice L.A1 L.ri.length L.c1, .slice L.A2 L.ca.length L.c2, .slice L.A3 L.su.length L.c3]) (t := 39) (i := 1) rfl rfl))
    have d2 := cb hb1 (cb (b1 _ _) (cnew (w := w) (cs := #[.slice L.A0 L.st.length L.c0, .slice L.A1 L.ri.length L.c1, .slice L.A2 L.ca.length L.c2, .slice L.A3 L.su.length L.c3]) (t := 39) (i := 2) rfl rfl))
    have d3 := cb hb1 (cb (b1 _ _) (cnew (w := w) (cs := #[.slice L.A0 L.st.length L.c0, .slice L.A1 L.ri.length L.c1, .slice L.A2 L.ca.length L.c2, .slice L.A3 L.su.length L.c3]) (t := 39) (i := 3) rfl rfl))
    have dk : w1.cell? ⟨w.heap.size + 1, 0, none⟩ = some (.int .i64 k) := cb hb1 (cnew (w := w.alloc (.cells #[.slice L.A0 L.st.length L.c0, .slice L.A1 L.ri.length L.c1, .slice L.A2 L.ca.length L.c2, .slice L.A3 L.su.length L.c3] 39)) (cs := #[.int .i64 k]) (t := 3) (i := 0) (by simp) rfl)
    simp only [World.size_alloc] at hg hm
    have hsz := hb1.size
    simp only [World.size_alloc] at hsz
    have HW := Aside0.mk hW
    have hgl := blk_lt hW.blk
    have hml := blk_lt hW.mbmap.choose_spec.choose_spec
    clear hb1 hk hW
    have HD := Aside0.mk (And.intro d0 (And.intro d1 (And.intro d2 (And.intro d3 dk))))
    have hne : w.heap.size ≠ w1.heap.size := by omega
    have hlt : w.heap.size < w1.heap.size := by omega
    have hne1 : w.heap.size ≠ w1.heap.size + 1 := by omega
    have hlt1 : w.heap.size < w1.heap.size + 1 := by omega
    have hne2 : w.heap.size + 1 ≠ w1.heap.size := by omega
    have hlt2 : w.heap.size + 1 < w1.heap.size := by omega
    have hne3 : w.heap.size + 1 ≠ w1.heap.size + 1 := by omega
    have hlt3 : w.heap.size + 1 < w1.heap.size + 1 := by omega
    go_wp2_with fail
    obtain ⟨W2, hW2⟩ : ∃ W2, W2 = (w1.alloc (.cells #[.pointer (some ⟨g, 0, none⟩)] 90)).alloc (.cells #[.int .i64 f, .int .i64 t] 95) := ⟨_, rfl⟩
    rw [← hW2]
    have hb2 : Below w1.heap.size w1 W2 := by rw [hW2]; exact below_alloc (b1 _ _) _
    have k1 : W2.cell? ⟨w1.heap.size, 0, none⟩ = some (.pointer (some ⟨g, 0, none⟩)) := by rw [hW2]; exact cb (b1 _ _) (cnew rfl rfl)
    have k2 : W2.cell? ⟨w1.heap.size + 1, 0, none⟩ = some (.int .i64 f) := by rw [hW2]; exact cnew (by simp) rfl
    have k3 : W2.cell? ⟨w1.heap.size + 1, 1, none⟩ = some (.int .i64 t) := by rw [hW2]; exact cnew (by simp) rfl
    clear hW2
    have HA : Aside0 (L.ask f t k 0 = askF L.st.length L.ca.length L.su.length f t k 0) := ⟨rfl⟩
    refine (asked_c L.A0 L.A1 L.A2 L.A3 _ _ _ _ L.c0 L.c1 L.c2 L.c3 hl0 hl2 hl3 f t k 0 _).mono ?_
    rintro e w2 ⟨rfl, hb3⟩
    have hb4 := bt hb2 hb3
    by_cases hak : askF L.st.length L.ca.length L.su.length f t k 0 = 0
    · have HAK := Aside0.mk (And.intro hak (ask_ok hak))
      have HE' : Aside0 (hoursE L f t k = (filK (fun h => canF L f t k h) L.su.length, 0)) := ⟨by rw [HE.out, if_neg (by rw [HK.out]; decide), if_neg (by rw [HA.out]; exact fun h => h hak)]⟩
      rw [hak]
      have HQ := Aside0.mk (And.intro (cb hb3 k1) (And.intro (cb hb3 k2) (And.intro (cb hb3 k3) (cb hb4 dk))))
      have HB4 := Aside0.mk hb4
      clear hak hb2 hb3 hb4 k1 k2 k3
      have e0 := cb HB4.out HD.out.1
      have e1 := cb HB4.out HD.out.2.1
      have e2 := cb HB4.out HD.out.2.2.1
      have e3 := cb HB4.out HD.out.2.2.2.1
      clear d0 d1 d2 d3
      go_wp2_with fail
      obtain ⟨hak, ⟨⟨a1, a2⟩, ⟨a3, a4⟩, ⟨a5, a6⟩, a7, a8⟩, a9⟩ := HAK.out
      have hW3 := HW.out.below HB4.out
      have hs4 := HB4.out.size
      have HMN : Aside0 (∀ W a v, w2.grownBy W (some mb) → w2.cell? a = some v → W.cell? a = some v) := ⟨fun W a v hg ha => by
        obtain ⟨es, clock, hm⟩ := hW3.mbmap
        exact hg.cell ha (fun e => by
          injection e with e
          unfold World.cell? at ha
          rw [e, hm] at ha
          exact absurd ha (by simp))⟩
      refine (hours_c L g mb 1 60 #[.pointer (some ⟨w1.heap.size, 0, none⟩), .pointer (some ⟨w1.heap.size + 1, 0, none⟩), .pointer (some ⟨w.heap.size + 1, 0, none⟩)] (fun h => canF L f t k h) (enters_of Try.func60 (by kernel_rfl) rfl) w2 hW3 (Lv.ok_of HK.out).su12 ?_).mono ?_
      · intro i hi W N hN hWW hgW
        have h12 := (Lv.ok_of HK.out).su12
        have := hours1_c L g mb (1 * i) f t k i w1.heap.size (w1.heap.size + 1) (w.heap.size + 1) W hN hWW (Lv.ok_of HK.out) (by omega) (HMN.out _ _ _ hgW HQ.out.1) (HMN.out _ _ _ hgW HQ.out.2.1) (HMN.out _ _ _ hgW HQ.out.2.2.1) (HMN.out _ _ _ hgW HQ.out.2.2.2) a1 a2 a3 a4 a5 a6 (by omega) (by omega)
        refine this.mono ?_
        rintro e W' ⟨rfl, x1, x2⟩
        exact ⟨rfl, x1.mono (by omega), x2⟩
      · rintro e w5 ⟨v, rfl, hR, hg5⟩
        have HR := Aside0.mk (And.intro hR hg5)
        clear hR hg5 hW3
        go_wp2_with fail
        ((try simp only [Exit.inBlock, Exit.then]); refine bodyPost_ret (results_tmp2 rfl _ _ _) rfl ?_)
        exact ⟨v, by rw [HE'.out]; rfl, by rw [HE'.out]; exact Kd.R_lower HR.out.1 (by have := HB.out.size; omega), Below.grown (bt HB.out HB4.out) HR.out.2 (Nat.le_trans HB.out.size HB4.out.size) (fun k e => by injection e with e; omega)⟩
    · have HAK := Aside0.mk hak
      have HB3 := Aside0.mk hb4
      clear hb3 hb4
      have HE' : Aside0 (hoursE L f t k = ([], askF L.st.length L.ca.length L.su.length f t k 0)) := ⟨by rw [HE.out, if_neg (by rw [HK.out]; decide), if_pos (by rw [HA.out]; exact HAK.out), HA.out]⟩
      generalize askF L.st.length L.ca.length L.su.length f t k 0 = ak at *
      go_wp2_with fail
      ((try simp only [Exit.inBlock, Exit.then]); refine bodyPost_ret (results_tmp2 rfl _ _ _) rfl ?_)
      exact ⟨.slice none 0 0, by rw [HE'.out]; rfl, by rw [HE'.out]; exact Kd.R_nil _ _ _ _ _, bt HB.out HB3.out⟩

set_option maxHeartbeats 1000000 in
theorem Always_c (L : Lv) (f t : Int) (w : World) (hI : L.In w) :
    Calls Try.prog 39 #[.agg #[.slice L.A0 L.st.length L.c0, .slice L.A1 L.ri.length L.c1, .slice L.A2 L.ca.length L.c2, .slice L.A3 L.su.length L.c3], .int .i64 f, .int .i64 t] w
      fun e w' => ∃ v : Value, e = .returned (.tuple #[v, .int .i64 (alwaysE L f t).2]) ∧ Kd.R (Kd.int .i64) 3 w' w.heap.size (fun _ => True) v (alwaysE L f t).1 ∧ Below w.heap.size w w' := by
  have HI := Aside0.mk hI
  have hl0 := hI.r0.2.1
  have hl2 := hI.r2.2.1
  have hl3 := hI.r3.2.1
  clear hI
  have HE : Aside0 (alwaysE L f t = if L.check ≠ 0 then ([], L.check) else if L.ask f t 0 0 ≠ 0 then ([], L.ask f t 0 0) else (filK (fun h => decide (stickF L f t h = L.ca.length)) L.su.length, 0)) := ⟨rfl⟩
  go_enter Try.func39, Try.ntmps39
  go_wp2_with fail
  refine (work_c L _ (HI.out.below (b1 w (.cells #[.slice L.A0 L.st.length L.c0, .slice L.A1 L.ri.length L.c1, .slice L.A2 L.ca.length L.c2, .slice L.A3 L.su.length L.c3] 39)))).mono ?_
  rintro e w1 ⟨hb1, ⟨hk, rfl⟩ | ⟨hk, g, mb, rfl, hg, hm, hW⟩⟩
  · have HB := Aside0.mk (bt (b1 w (.cells #[.slice L.A0 L.st.length L.c0, .slice L.A1 L.ri.length L.c1, .slice L.A2 L.ca.length L.c2, .slice L.A3 L.su.length L.c3] 39)) hb1)
    have HK := Aside0.mk hk
    generalize L.check = c at *
    go_wp2_with fail
    ((try simp only [Exit.inBlock, Exit.then]); refine bodyPost_ret (results_tmp2 rfl _ _ _) rfl ?_)
    exact ⟨.slice none 0 0, by rw [HE.out, if_pos HK.out]; rfl, by rw [HE.out, if_pos HK.out]; exact Kd.R_nil _ _ _ _ _, below_alloc HB.out _⟩
  · have HK := Aside0.mk hk
    have HB := Aside0.mk (bt (b1 w (.cells #[.slice L.A0 L.st.length L.c0, .slice L.A1 L.ri.length L.c1, .slice L.A2 L.ca.length L.c2, .slice L.A3 L.su.length L.c3] 39)) hb1)
    have d0 := cb hb1 ((cnew (w := w) (cs := #[.slice L.A0 L.st.length L.c0, .slice L.A1 L.ri.length L.c1, .slice L.A2 L.ca.length L.c2, .slice L.A3 L.su.length L.c3]) (t := 39) (i := 0) rfl rfl))
    have d1 := cb hb1 ((cnew (w := w) (cs := #[.slice L.A0 L.st.length L.c0, .slice L.A1 L.ri.length L.c1, .slice L.A2 L.ca.length L.c2, .slice L.A3 L.su.length L.c3]) (t := 39) (i := 1) rfl rfl))
    have d2 := cb hb1 ((cnew (w := w) (cs := #[.slice L.A0 L.st.length L.c0, .slice L.A1 L.ri.length L.c1, .slice L.A2 L.ca.length L.c2, .slice L.A3 L.su.length L.c3]) (t := 39) (i := 2) rfl rfl))
    have d3 := cb hb1 ((cnew (w := w) (cs := #[.slice L.A0 L.st.length L.c0, .slice L.A1 L.ri.length L.c1, .slice L.A2 L.ca.length L.c2, .slice L.A3 L.su.length L.c3]) (t := 39) (i := 3) rfl rfl))
    simp only [World.size_alloc] at hg hm
    have hsz := hb1.size
    simp only [World.size_alloc] at hsz
    have HW := Aside0.mk hW
    have hgl := blk_lt hW.blk
    have hml := blk_lt hW.mbmap.choose_spec.choose_spec
    clear hb1 hk hW
    have HD := Aside0.mk (And.intro d0 (And.intro d1 (And.intro d2 d3)))
    have hne : w.heap.size ≠ w1.heap.size := by omega
    have hlt : w.heap.size < w1.heap.size := by omega
    have hne1 : w.heap.size ≠ w1.heap.size + 1 := by omega
    have hlt1 : w.heap.size < w1.heap.size + 1 := by omega

    go_wp2_with fail
    obtain ⟨W2, hW2⟩ : ∃ W2, W2 = (w1.alloc (.cells #[.pointer (some ⟨g, 0, none⟩)] 90)).alloc (.cells #[.int .i64 f, .int .i64 t] 95) := ⟨_, rfl⟩
    rw [← hW2]
    have hb2 : Below w1.heap.size w1 W2 := by rw [hW2]; exact below_alloc (b1 _ _) _
    have k1 : W2.cell? ⟨w1.heap.size, 0, none⟩ = some (.pointer (some ⟨g, 0, none⟩)) := by rw [hW2]; exact cb (b1 _ _) (cnew rfl rfl)
    have k2 : W2.cell? ⟨w1.heap.size + 1, 0, none⟩ = some (.int .i64 f) := by rw [hW2]; exact cnew (by simp) rfl
    have k3 : W2.cell? ⟨w1.heap.size + 1, 1, none⟩ = some (.int .i64 t) := by rw [hW2]; exact cnew (by simp) rfl
    clear hW2
    have HA : Aside0 (L.ask f t 0 0 = askF L.st.length L.ca.length L.su.length f t 0 0) := ⟨rfl⟩
    refine (asked_c L.A0 L.A1 L.A2 L.A3 _ _ _ _ L.c0 L.c1 L.c2 L.c3 hl0 hl2 hl3 f t 0 0 _).mono ?_
    rintro e w2 ⟨rfl, hb3⟩
    have hb4 := bt hb2 hb3
    by_cases hak : askF L.st.length L.ca.length L.su.length f t 0 0 = 0
    · have HAK := Aside0.mk (And.intro hak (ask_ok hak))
      have HE' : Aside0 (alwaysE L f t = (filK (fun h => decide (stickF L f t h = L.ca.length)) L.su.length, 0)) := ⟨by rw [HE.out, if_neg (by rw [HK.out]; decide), if_neg (by rw [HA.out]; exact fun h => h hak)]⟩
      rw [hak]
      have HQ := Aside0.mk (And.intro (cb hb3 k1) (And.intro (cb hb3 k2) (And.intro (cb hb3 k3) (cb hb4 d2))))
      have HB4 := Aside0.mk hb4
      clear hak hb2 hb3 hb4 k1 k2 k3
      have e0 := cb HB4.out HD.out.1
      have e1 := cb HB4.out HD.out.2.1
      have e2 := cb HB4.out HD.out.2.2.1
      have e3 := cb HB4.out HD.out.2.2.2
      clear d0 d1 d2 d3
      go_wp2_with fail
      obtain ⟨hak, ⟨⟨a1, a2⟩, ⟨a3, a4⟩, ⟨a5, a6⟩, a7, a8⟩, a9⟩ := HAK.out
      have hW3 := HW.out.below HB4.out
      have hs4 := HB4.out.size
      have HMN : Aside0 (∀ W a v, w2.grownBy W (some mb) → w2.cell? a = some v → W.cell? a = some v) := ⟨fun W a v hg ha => by
        obtain ⟨es, clock, hm⟩ := hW3.mbmap
        exact hg.cell ha (fun e => by
          injection e with e
          unfold World.cell? at ha
          rw [e, hm] at ha
          exact absurd ha (by simp))⟩
      refine (hours_c L g mb 4 66 #[.pointer (some ⟨w1.heap.size, 0, none⟩), .pointer (some ⟨w1.heap.size + 1, 0, none⟩), .pointer (some ⟨w.heap.size, 0, none⟩)] (fun h => decide (stickF L f t h = L.ca.length)) (enters_of Try.func66 (by kernel_rfl) rfl) w2 hW3 (Lv.ok_of HK.out).su12 ?_).mono ?_
      · intro i hi W N hN hWW hgW
        have h12 := (Lv.ok_of HK.out).su12
        have := always1_c L g mb (4 * i) f t i w1.heap.size (w1.heap.size + 1) w.heap.size W hN hWW (Lv.ok_of HK.out) (by omega) (HMN.out _ _ _ hgW HQ.out.1) (HMN.out _ _ _ hgW HQ.out.2.1) (HMN.out _ _ _ hgW HQ.out.2.2.1) (HMN.out _ _ _ hgW HQ.out.2.2.2) a1 a2 a3 a4 (by omega) (by omega)
        refine this.mono ?_
        rintro e W' ⟨rfl, x1, x2⟩
        exact ⟨rfl, x1.mono (by omega), x2⟩
      · rintro e w5 ⟨v, rfl, hR, hg5⟩
        have HR := Aside0.mk (And.intro hR hg5)
        clear hR hg5 hW3
        go_wp2_with fail
        ((try simp only [Exit.inBlock, Exit.then]); refine bodyPost_ret (results_tmp2 rfl _ _ _) rfl ?_)
        exact ⟨v, by rw [HE'.out]; rfl, by rw [HE'.out]; exact Kd.R_lower HR.out.1 (by have := HB.out.size; omega), Below.grown (bt HB.out HB4.out) HR.out.2 (Nat.le_trans HB.out.size HB4.out.size) (fun k e => by injection e with e; omega)⟩
    · have HAK := Aside0.mk hak
      have HB3 := Aside0.mk hb4
      clear hb3 hb4
      have HE' : Aside0 (alwaysE L f t = ([], askF L.st.length L.ca.length L.su.length f t 0 0)) := ⟨by rw [HE.out, if_neg (by rw [HK.out]; decide), if_pos (by rw [HA.out]; exact HAK.out), HA.out]⟩
      generalize askF L.st.length L.ca.length L.su.length f t 0 0 = ak at *
      go_wp2_with fail
      ((try simp only [Exit.inBlock, Exit.then]); refine bodyPost_ret (results_tmp2 rfl _ _ _) rfl ?_)
      exact ⟨.slice none 0 0, by rw [HE'.out]; rfl, by rw [HE'.out]; exact Kd.R_nil _ _ _ _ _, bt HB.out HB3.out⟩

end Go.Proofs.Ytkbdphjnpieceaa.G
