/- Contracts of the exported hill.Mirrors, hill.Stick. Printed by gen_h14.py. -/
import Derived.Test.YtkbdphjnpieceaaH13
namespace Go.Proofs.Ytkbdphjnpieceaa.G
open Go.RowKit Go.Proofs.YtkbdphjnpieceaaW.PrintWords Go.Proofs.YtkbdphjnpieceaaW.PrintLast Go.Proofs.YtkbdphjnpieceaaW.PrintMore
open Go.Sort (grow)
set_option linter.unusedVariables false
set_option linter.unusedSimpArgs false

/-- hill.Mirrors. -/
def mirE (L : Lv) (f t h : Int) : Int × Int :=
  if L.check ≠ 0 then (0, L.check) else if L.ask f t 0 h ≠ 0 then (0, L.ask f t 0 h) else if (rd_T99 L.su h).f2 ≤ 0 then (0, 7) else (mirrorsF (rd_T85 L.st f) (rd_T85 L.st t) (rd_T99 L.su h), 0)
/-- hill.Stick. -/
def stickE (L : Lv) (f t h : Int) : Int × Int :=
  if L.check ≠ 0 then (0, L.check) else if L.ask f t 0 h ≠ 0 then (0, L.ask f t 0 h) else if stickF L f t h = L.ca.length then (0, 7) else (stickF L f t h, 0)

set_option maxHeartbeats 1000000 in
theorem Mirrors_c (L : Lv) (f t h : Int) (w : World) (hI : L.In w) :
    Calls Try.prog 21 #[.agg #[.slice L.A0 L.st.length L.c0, .slice L.A1 L.ri.length L.c1, .slice L.A2 L.ca.length L.c2, .slice L.A3 L.su.length L.c3], .int .i64 f, .int .i64 t, .int .i64 h] w
      fun e w' => e = .returned (.tuple #[.int .i64 (mirE L f t h).1, .int .i64 (mirE L f t h).2]) ∧ Below w.heap.size w w' := by
  have HI := Aside0.mk hI
  have hl0 := hI.r0.2.1
  have hl2 := hI.r2.2.1
  have hl3 := hI.r3.2.1
  clear hI
  have HE : Aside0 (mirE L f t h = if L.check ≠ 0 then (0, L.check) else if L.ask f t 0 h ≠ 0 then (0, L.ask f t 0 h) else if (rd_T99 L.su h).f2 ≤ 0 then (0, 7) else (mirrorsF (rd_T85 L.st f) (rd_T85 L.st t) (rd_T99 L.su h), 0)) := ⟨rfl⟩
  go_enter Try.func21, Try.ntmps21
  go_wp2_with fail
  refine (work_c L _ (HI.out.below (b1 _ _))).mono ?_
  rintro e w1 ⟨hb1, ⟨hk, rfl⟩ | ⟨hk, g, mb, rfl, hg, hm, hW⟩⟩
  · have HB := Aside0.mk (bt (b1 _ _) hb1)
    have HK := Aside0.mk hk
    generalize L.check = c at *
    go_wp2_with fail
    ((try simp only [Exit.inBlock, Exit.then]); refine bodyPost_ret (results_tmp2 rfl _ _ _) rfl ?_)
    exact ⟨by rw [HE.out, if_pos HK.out]; rfl, HB.out⟩
  · have HK := Aside0.mk hk
    have HB := Aside0.mk (bt (b1 w (.cells #[.slice L.A0 L.st.length L.c0, .slice L.A1 L.ri.length L.c1, .slice L.A2 L.ca.length L.c2, .slice L.A3 L.su.length L.c3] 39)) hb1)
    have d0 := cb hb1 (cnew (w := w) (cs := #[.slice L.A0 L.st.length L.c0, .slice L.A1 L.ri.length L.c1, .slice L.A2 L.ca.length L.c2, .slice L.A3 L.su.length L.c3]) (t := 39) (i := 0) rfl rfl)
    have d1 := cb hb1 (cnew (w := w) (cs := #[.slice L.A0 L.st.length L.c0, .slice L.A1 L.ri.length L.c1, .slice L.A2 L.ca.length L.c2, .slice L.A3 L.su.length L.c3]) (t := 39) (i := 1) rfl rfl)
    have d2 := cb hb1 (cnew (w := w) (cs := #[.slice L.A0 L.st.length L.c0, .slice L.A1 L.ri.length L.c1, .slice L.A2 L.ca.length L.c2, .slice L.A3 L.su.length L.c3]) (t := 39) (i := 2) rfl rfl)
    have d3 := cb hb1 (cnew (w := w) (cs := #[.slice L.A0 L.st.length L.c0, .slice L.A1 L.ri.length L.c1, .slice L.A2 L.ca.length L.c2, .slice L.A3 L.su.length L.c3]) (t := 39) (i := 3) rfl rfl)
    have HD := Aside0.mk (And.intro d0 (And.intro d1 (And.intro d2 d3)))
    simp only [World.size_alloc] at hg hm
    have HW := Aside0.mk hW
    have hsz := hb1.size
    simp only [World.size_alloc] at hsz
    clear hb1 hk hW
    have hne : w.heap.size ≠ w1.heap.size := by omega
    have hlt : w.heap.size < w1.heap.size := by omega
    go_wp2_with fail
    have HA : Aside0 (L.ask f t 0 h = askF L.st.length L.ca.length L.su.length f t 0 h) := ⟨rfl⟩
    refine (asked_c L.A0 L.A1 L.A2 L.A3 _ _ _ _ L.c0 L.c1 L.c2 L.c3 hl0 hl2 hl3 f t 0 h _).mono ?_
    rintro e w2 ⟨rfl, hb2⟩
    by_cases hak : askF L.st.length L.ca.length L.su.length f t 0 h = 0
    · have hp := blk_below (blk_new w1 (.cells #[.int .i64 f, .int .i64 t] 95)) hb2
      have p0 := (blk_cell hp 0).trans rfl
      have p1 := (blk_cell hp 1).trans rfl
      have hb3 := bt (b1 w1 (.cells #[.int .i64 f, .int .i64 t] 95)) hb2
      have HB3 := Aside0.mk hb3
      have HAK := Aside0.mk (And.intro hak (ask_ok hak))
      clear hb2 hp hb3
      rw [hak]
      clear hak
      obtain ⟨hak, ⟨⟨a1, a2⟩, ⟨a3, a4⟩, ⟨a5, a6⟩, a7, a8⟩, a9⟩ := HAK.out
      have HE' : Aside0 (mirE L f t h = if (rd_T99 L.su h).f2 ≤ 0 then (0, 7) else (mirrorsF (rd_T85 L.st f) (rd_T85 L.st t) (rd_T99 L.su h), 0)) := ⟨by rw [HE.out, if_neg (by rw [HK.out]; decide), if_neg (by rw [HA.out, HAK.out.1]; decide)]⟩
      obtain ⟨ads, es, s0, s1, s2⟩ := at_T99 HI.out.r3 h a7 a8
      have hBw := bt HB.out HB3.out
      replace s2 := cb hBw s2
      have D3 := cb HB3.out HD.out.2.2.2
      rw [es] at D3
      clear s0 s1 es d0 d1 d2 d3
      have HB4 := Aside0.mk hBw
      clear hBw
      by_cases hup : (rd_T99 L.su h).f2 ≤ 0
      · go_wp2_with fail
        ((try simp only [Exit.inBlock, Exit.then]); refine bodyPost_ret (results_tmp2 rfl _ _ _) rfl ?_)
        exact ⟨by rw [HE'.out, if_pos hup]; rfl, HB4.out⟩
      · go_wp2_with fail
        refine (mirrors_c L g mb 0 f t h _ (HW.out.below HB3.out) a1 a2 a3 a4 a7 a8 ((Lv.ok_of HK.out).st f a1 a2) ((Lv.ok_of HK.out).st t a3 a4) ((Lv.ok_of HK.out).su h a7 a8)).mono ?_
        rintro e w3 ⟨rfl, hb3⟩
        have HB5 := Aside0.mk hb3
        clear hb3
        go_wp2_with fail
        ((try simp only [Exit.inBlock, Exit.then]); refine bodyPost_ret (results_tmp2 rfl _ _ _) rfl ?_)
        exact ⟨by rw [HE'.out, if_neg (by omega)]; rfl, bt HB4.out HB5.out⟩
    · have HAK := Aside0.mk hak
      have HB3 := Aside0.mk (bt (b1 w1 (.cells #[.int .i64 f, .int .i64 t] 95)) hb2)
      clear hb2
      have HE' : Aside0 (mirE L f t h = (0, askF L.st.length L.ca.length L.su.length f t 0 h)) := ⟨by rw [HE.out, if_neg (by rw [HK.out]; decide), if_pos (by rw [HA.out]; exact HAK.out), HA.out]⟩
      generalize askF L.st.length L.ca.length L.su.length f t 0 h = ak at *
      go_wp2_with fail
      ((try simp only [Exit.inBlock, Exit.then]); refine bodyPost_ret (results_tmp2 rfl _ _ _) rfl ?_)
      exact ⟨by rw [HE'.out]; rfl, bt HB.out HB3.out⟩

set_option maxHeartbeats 1000000 in
theorem Stick_c (L : Lv) (f t h : Int) (w : World) (hI : L.In w) :
    Calls Try.prog 40 #[.agg #[.slice L.A0 L.st.length L.c0, .slice L.A1 L.ri.length L.c1, .slice L.A2 L.ca.length L.c2, .slice L.A3 L.su.length L.c3], .int .i64 f, .int .i64 t, .int .i64 h] w
      fun e w' => e = .returned (.tuple #[.int .i64 (stickE L f t h).1, .int .i64 (stickE L f t h).2]) ∧ Below w.heap.size w w' := by
  have HI := Aside0.mk hI
  have hl0 := hI.r0.2.1
  have hl2 := hI.r2.2.1
  have hl3 := hI.r3.2.1
  clear hI
  have HE : Aside0 (stickE L f t h = if L.check ≠ 0 then (0, L.check) else if L.ask f t 0 h ≠ 0 then (0, L.ask f t 0 h) else if stickF L f t h = L.ca.length then (0, 7) else (stickF L f t h, 0)) := ⟨rfl⟩
  go_enter Try.func40, Try.ntmps40
  go_wp2_with fail
  refine (work_c L _ (HI.out.below (b1 _ _))).mono ?_
  rintro e w1 ⟨hb1, ⟨hk, rfl⟩ | ⟨hk, g, mb, rfl, hg, hm, hW⟩⟩
  · have HB := Aside0.mk (bt (b1 _ _) hb1)
    have HK := Aside0.mk hk
    generalize L.check = c at *
    go_wp2_with fail
    ((try simp only [Exit.inBlock, Exit.then]); refine bodyPost_ret (results_tmp2 rfl _ _ _) rfl ?_)
    exact ⟨by rw [HE.out, if_pos HK.out]; rfl, HB.out⟩
  · have HK := Aside0.mk hk
    have HB := Aside0.mk (bt (b1 w (.cells #[.slice L.A0 L.st.length L.c0, .slice L.A1 L.ri.length L.c1, .slice L.A2 L.ca.length L.c2, .slice L.A3 L.su.length L.c3] 39)) hb1)
    have d0 := cb hb1 (cnew (w := w) (cs := #[.slice L.A0 L.st.length L.c0, .slice L.A1 L.ri.length L.c1, .slice L.A2 L.ca.length L.c2, .slice L.A3 L.su.length L.c3]) (t := 39) (i := 0) rfl rfl)
    have d1 := cb hb1 (cnew (w := w) (cs := #[.slice L.A0 L.st.length L.c0, .slice L.A1 L.ri.length L.c1, .slice L.A2 L.ca.length L.c2, .slice L.A3 L.su.length L.c3]) (t := 39) (i := 1) rfl rfl)
    have d2 := cb hb1 (cnew (w := w) (cs := #[.slice L.A0 L.st.length L.c0, .slice L.A1 L.ri.length L.c1, .slice L.A2 L.ca.length L.c2, .slice L.A3 L.su.length L.c3]) (t := 39) (i := 2) rfl rfl)
    have d3 := cb hb1 (cnew (w := w) (cs := #[.slice L.A0 L.st.length L.c0, .slice L.A1 L.ri.length L.c1, .slice L.A2 L.ca.length L.c2, .slice L.A3 L.su.length L.c3]) (t := 39) (i := 3) rfl rfl)
    have HD := Aside0.mk (And.intro d0 (And.intro d1 (And.intro d2 d3)))
    simp only [World.size_alloc] at hg hm
    have HW := Aside0.mk hW
    have hsz := hb1.size
    simp only [World.size_alloc] at hsz
    clear hb1 hk hW
    have hne : w.heap.size ≠ w1.heap.size := by omega
    have hlt : w.heap.size < w1.heap.size := by omega
    go_wp2_with fail
    have HA : Aside0 (L.ask f t 0 h = askF L.st.length L.ca.length L.su.length f t 0 h) := ⟨rfl⟩
    refine (asked_c L.A0 L.A1 L.A2 L.A3 _ _ _ _ L.c0 L.c1 L.c2 L.c3 hl0 hl2 hl3 f t 0 h _).mono ?_
    rintro e w2 ⟨rfl, hb2⟩
    by_cases hak : askF L.st.length L.ca.length L.su.length f t 0 h = 0
    · have hp := blk_below (blk_new w1 (.cells #[.int .i64 f, .int .i64 t] 95)) hb2
      have p0 := (blk_cell hp 0).trans rfl
      have p1 := (blk_cell hp 1).trans rfl
      have hb3 := bt (b1 w1 (.cells #[.int .i64 f, .int .i64 t] 95)) hb2
      have HB3 := Aside0.mk hb3
      have HAK := Aside0.mk (And.intro hak (ask_ok hak))
      clear hb2 hp hb3
      rw [hak]
      clear hak
      obtain ⟨hak, ⟨⟨a1, a2⟩, ⟨a3, a4⟩, ⟨a5, a6⟩, a7, a8⟩, a9⟩ := HAK.out
      have HE' : Aside0 (stickE L f t h = if stickF L f t h = L.ca.length then (0, 7) else (stickF L f t h, 0)) := ⟨by rw [HE.out, if_neg (by rw [HK.out]; decide), if_neg (by rw [HA.out, HAK.out.1]; decide)]⟩
      clear d0 d1 d2 d3
      go_wp2_with fail
      refine (stick_c L g mb 0 f t h _ (fun _ _ => trivial) (HW.out.below HB3.out) (Lv.ok_of HK.out) (by decide) a1 a2 a3 a4 a7 a8).mono ?_
      rintro e w3 ⟨rfl, hW3, hg3⟩
      have hne3 : some w.heap.size ≠ some mb := fun e => by injection e with e; omega
      have D2 := hg3.cell (a := ⟨w.heap.size, 2, none⟩) (cb HB3.out HD.out.2.2.1) hne3
      have HB4 := Aside0.mk (Below.grown (bt HB.out HB3.out) hg3 (Nat.le_trans HB.out.size HB3.out.size) (fun k e => by injection e with e; omega))
      clear hW3 hg3
      generalize stickF L f t h = s at *
      by_cases hst : s = L.ca.length
      · have HE2 : Aside0 (stickE L f t h = (0, 7)) := ⟨by rw [HE'.out, if_pos hst]⟩
        subst hst
        go_wp2_with fail
        ((try simp only [Exit.inBlock, Exit.then]); refine bodyPost_ret (results_tmp2 rfl _ _ _) rfl ?_)
        exact ⟨by rw [HE2.out]; rfl, HB4.out⟩
      · go_wp2_with fail
        ((try simp only [Exit.inBlock, Exit.then]); refine bodyPost_ret (results_tmp2 rfl _ _ _) rfl ?_)
        exact ⟨by rw [HE'.out, if_neg hst]; rfl, HB4.out⟩
    · have HAK := Aside0.mk hak
      have HB3 := Aside0.mk (bt (b1 w1 (.cells #[.int .i64 f, .int .i64 t] 95)) hb2)
      clear hb2
      have HE' : Aside0 (stickE L f t h = (0, askF L.st.length L.ca.length L.su.length f t 0 h)) := ⟨by rw [HE.out, if_neg (by rw [HK.out]; decide), if_pos (by rw [HA.out]; exact HAK.out), HA.out]⟩
      generalize askF L.st.length L.ca.length L.su.length f t 0 h = ak at *
      go_wp2_with fail
      ((try simp only [Exit.inBlock, Exit.then]); refine bodyPost_ret (results_tmp2 rfl _ _ _) rfl ?_)
      exact ⟨by rw [HE'.out]; rfl, bt HB.out HB3.out⟩

end Go.Proofs.Ytkbdphjnpieceaa.G
