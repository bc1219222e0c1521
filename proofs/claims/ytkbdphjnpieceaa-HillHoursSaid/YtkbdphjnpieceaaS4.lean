/- HillHours: the walk. -/
import Derived.Test.YtkbdphjnpieceaaL7
namespace Go.Proofs.Ytkbdphjnpieceaa.G
open Go.RowKit Go.Proofs.YtkbdphjnpieceaaW.PrintWords Go.Proofs.YtkbdphjnpieceaaW.PrintLast Go.Proofs.YtkbdphjnpieceaaW.PrintMore
set_option linter.unusedVariables false
set_option linter.unusedSimpArgs false
set_option maxHeartbeats 8000000 in
set_option maxRecDepth 100000 in
theorem hillHours_c (a0 : Rv) (a1 : Int) (a2 : Int) (a3 : Int) (a4 : Int) (w : World) (h0 : a0.In w) (h1 : (Lit.int .i64 a1).wf = true) (h2 : (Lit.int .i64 a2).wf = true) (h3 : (Lit.int .i64 a3).wf = true) (h4 : (Lit.int .i64 a4).wf = true) :
    Calls Try.prog 9 #[.agg a0.cells, .int .i64 a1, .int .i64 a2, .int .i64 a3, .int .i64 a4] w fun e w' => e = .returned (.bool true) ∧ Below w.heap.size w w' := by
  have HI := Aside0.mk h0
  have HB := Aside0.mk (b1 w (.cells a0.cells 27))
  have HBX := Aside0.mk (blk_new w (.cells a0.cells 27))
  have l0 := h0.r0.2.1
  have l1 := h0.r1.2.1
  have l2 := h0.r2.2.1
  have l3 := h0.r3.2.1
  clear h0
  simp only [Rv.cells] at *
  by_cases hth : a0.thin = true
  rotate_left
  · have HT : Aside0 (a0.thin = false) := ⟨by simpa using hth⟩
    clear hth
    go_enter Try.func9, Try.ntmps9
    have d0 := (blk_cell HBX.out 0).trans rfl
    have d1 := (blk_cell HBX.out 1).trans rfl
    have d2 := (blk_cell HBX.out 2).trans rfl
    have d3 := (blk_cell HBX.out 3).trans rfl
    go_wp2_with fail
    refine (thin_c a0 _ (HI.out.below HB.out)).mono ?_
    rintro e w1_ ⟨rfl, hb_⟩
    replace HB := Aside0.mk (bt HB.out hb_)
    replace HBX := Aside0.mk (blk_below HBX.out hb_)
    clear d0 d1 d2 d3
    clear hb_
    have d0 := (blk_cell HBX.out 0).trans rfl
    have d1 := (blk_cell HBX.out 1).trans rfl
    have d2 := (blk_cell HBX.out 2).trans rfl
    have d3 := (blk_cell HBX.out 3).trans rfl
    rw [HT.out]
    go_wp2_with fail
    refine (awake_c _).mono ?_
    rintro e w2_ ⟨rfl, hb_⟩
    replace HB := Aside0.mk (bt HB.out hb_)
    replace HBX := Aside0.mk (blk_below HBX.out hb_)
    clear d0 d1 d2 d3
    clear hb_
    go_wp2_with fail
    go_ret
    exact ⟨ret_bool rfl, HB.out⟩
  have HT := Aside0.mk hth
  have HF := Aside0.mk (Rv.few_of hth)
  clear hth
  go_enter Try.func9, Try.ntmps9
  have d0 := (blk_cell HBX.out 0).trans rfl
  have d1 := (blk_cell HBX.out 1).trans rfl
  have d2 := (blk_cell HBX.out 2).trans rfl
  have d3 := (blk_cell HBX.out 3).trans rfl
  go_wp2_with fail
  refine (thin_c a0 _ (HI.out.below HB.out)).mono ?_
  rintro e w3_ ⟨rfl, hb_⟩
  replace HB := Aside0.mk (bt HB.out hb_)
  replace HBX := Aside0.mk (blk_below HBX.out hb_)
  clear d0 d1 d2 d3
  clear hb_
  have d0 := (blk_cell HBX.out 0).trans rfl
  have d1 := (blk_cell HBX.out 1).trans rfl
  have d2 := (blk_cell HBX.out 2).trans rfl
  have d3 := (blk_cell HBX.out 3).trans rfl
  rw [HT.out]
  go_wp2_with fail
  refine (lland_c a0 _ (HI.out.below HB.out) HF.out).mono ?_
  rintro e w4_ ⟨L, rfl, hO, hL, hb_⟩
  replace HB := Aside0.mk (bt HB.out hb_)
  replace HBX := Aside0.mk (blk_below HBX.out hb_)
  clear d0 d1 d2 d3
  clear hb_
  have d0 := (blk_cell HBX.out 0).trans rfl
  have d1 := (blk_cell HBX.out 1).trans rfl
  have d2 := (blk_cell HBX.out 2).trans rfl
  have d3 := (blk_cell HBX.out 3).trans rfl
  have HO := Aside0.mk hO
  have HL := Aside0.mk hL
  clear hO hL
  go_wp2_with fail
  refine (of_hours HO.out HL.out a1 a2 a3).mono ?_
  rintro e w5_ ⟨Ah, ch, rfl, hX, hb_⟩
  replace HB := Aside0.mk (bt HB.out hb_)
  replace HBX := Aside0.mk (blk_below HBX.out hb_)
  clear d0 d1 d2 d3
  clear hb_
  have d0 := (blk_cell HBX.out 0).trans rfl
  have d1 := (blk_cell HBX.out 1).trans rfl
  have d2 := (blk_cell HBX.out 2).trans rfl
  have d3 := (blk_cell HBX.out 3).trans rfl
  have HX := Aside0.mk hX
  clear hX HO HL
  go_wp2_with fail
  refine (lland_c a0 _ (HI.out.below HB.out) HF.out).mono ?_
  rintro e w6_ ⟨L, rfl, hO, hL, hb_⟩
  replace HB := Aside0.mk (bt HB.out hb_)
  replace HBX := Aside0.mk (blk_below HBX.out hb_)
  replace HX := Aside0.mk (Kd.C_below HX.out hb_)
  clear d0 d1 d2 d3
  clear hb_
  have d0 := (blk_cell HBX.out 0).trans rfl
  have d1 := (blk_cell HBX.out 1).trans rfl
  have d2 := (blk_cell HBX.out 2).trans rfl
  have d3 := (blk_cell HBX.out 3).trans rfl
  have HO := Aside0.mk hO
  have HL := Aside0.mk hL
  clear hO hL
  go_wp2_with fail
  refine (of_always HO.out HL.out a1 a2).mono ?_
  rintro e w7_ ⟨Aa, ca_, rfl, hY, hb_⟩
  replace HB := Aside0.mk (bt HB.out hb_)
  replace HBX := Aside0.mk (blk_below HBX.out hb_)
  replace HX := Aside0.mk (Kd.C_below HX.out hb_)
  clear d0 d1 d2 d3
  clear hb_
  have d0 := (blk_cell HBX.out 0).trans rfl
  have d1 := (blk_cell HBX.out 1).trans rfl
  have d2 := (blk_cell HBX.out 2).trans rfl
  have d3 := (blk_cell HBX.out 3).trans rfl
  have HY := Aside0.mk hY
  clear hY HO HL
  go_wp2_with fail
  refine (lland_c a0 _ (HI.out.below HB.out) HF.out).mono ?_
  rintro e w8_ ⟨L, rfl, hO, hL, hb_⟩
  replace HB := Aside0.mk (bt HB.out hb_)
  replace HBX := Aside0.mk (blk_below HBX.out hb_)
  replace HX := Aside0.mk (Kd.C_below HX.out hb_)
  replace HY := Aside0.mk (Kd.C_below HY.out hb_)
  clear d0 d1 d2 d3
  clear hb_
  have d0 := (blk_cell HBX.out 0).trans rfl
  have d1 := (blk_cell HBX.out 1).trans rfl
  have d2 := (blk_cell HBX.out 2).trans rfl
  have d3 := (blk_cell HBX.out 3).trans rfl
  have HO := Aside0.mk hO
  have HL := Aside0.mk hL
  clear hO hL
  go_wp2_with fail
  refine (of_stick HO.out HL.out a1 a2 a4).mono ?_
  rintro e w9_ ⟨rfl, hb_⟩
  replace HB := Aside0.mk (bt HB.out hb_)
  replace HBX := Aside0.mk (blk_below HBX.out hb_)
  replace HX := Aside0.mk (Kd.C_below HX.out hb_)
  replace HY := Aside0.mk (Kd.C_below HY.out hb_)
  clear d0 d1 d2 d3
  clear hb_
  have d0 := (blk_cell HBX.out 0).trans rfl
  have d1 := (blk_cell HBX.out 1).trans rfl
  have d2 := (blk_cell HBX.out 2).trans rfl
  have d3 := (blk_cell HBX.out 3).trans rfl
  clear HO HL
  go_wp2_with fail
  by_cases hc : a0.lv.check = 0
  rotate_left
  · have HC := Aside0.mk hc
    have E1 := Aside0.mk (hours_bad (f := a1) (t := a2) (k := a3) hc)
    have E2 := Aside0.mk (always_bad (f := a1) (t := a2) hc)
    have E3 := Aside0.mk (stick_bad (f := a1) (t := a2) (h := a4) hc)
    have D1 := Aside0.mk (due_bad (f := a1) (t := a2) (k := a3) (h := 0) hc)
    have D2 := Aside0.mk (due_bad (f := a1) (t := a2) (k := 0) (h := 0) hc)
    have D3 := Aside0.mk (due_bad (f := a1) (t := a2) (k := 0) (h := a4) hc)
    rw [E1.out] at HX
    rw [E2.out] at HY
    rw [E1.out, E2.out, E3.out]
    clear E1 E2 E3
    generalize a0.lv.check = c at *
    have t1 : (c != 0) = true := by simpa using hc
    have t2 : (c == 0) = false := by simpa using hc
    clear hc
    refine (lasked_c a0 a1 a2 a3 0 _ (HI.out.below HB.out)).mono ?_
    rintro e w10_ ⟨rfl, hb_⟩
    replace HB := Aside0.mk (bt HB.out hb_)
    replace HBX := Aside0.mk (blk_below HBX.out hb_)
    replace HX := Aside0.mk (Kd.C_below HX.out hb_)
    replace HY := Aside0.mk (Kd.C_below HY.out hb_)
    clear d0 d1 d2 d3
    clear hb_
    have d0 := (blk_cell HBX.out 0).trans rfl
    have d1 := (blk_cell HBX.out 1).trans rfl
    have d2 := (blk_cell HBX.out 2).trans rfl
    have d3 := (blk_cell HBX.out 3).trans rfl
    rw [D1.out]
    go_wp2_with fail
    refine (lasked_c a0 a1 a2 0 0 _ (HI.out.below HB.out)).mono ?_
    rintro e w11_ ⟨rfl, hb_⟩
    replace HB := Aside0.mk (bt HB.out hb_)
    replace HBX := Aside0.mk (blk_below HBX.out hb_)
    replace HX := Aside0.mk (Kd.C_below HX.out hb_)
    replace HY := Aside0.mk (Kd.C_below HY.out hb_)
    clear d0 d1 d2 d3
    clear hb_
    have d0 := (blk_cell HBX.out 0).trans rfl
    have d1 := (blk_cell HBX.out 1).trans rfl
    have d2 := (blk_cell HBX.out 2).trans rfl
    have d3 := (blk_cell HBX.out 3).trans rfl
    rw [D2.out]
    go_wp2_with fail
    refine (lasked_c a0 a1 a2 0 a4 _ (HI.out.below HB.out)).mono ?_
    rintro e w12_ ⟨rfl, hb_⟩
    replace HB := Aside0.mk (bt HB.out hb_)
    replace HBX := Aside0.mk (blk_below HBX.out hb_)
    replace HX := Aside0.mk (Kd.C_below HX.out hb_)
    replace HY := Aside0.mk (Kd.C_below HY.out hb_)
    clear d0 d1 d2 d3
    clear hb_
    have d0 := (blk_cell HBX.out 0).trans rfl
    have d1 := (blk_cell HBX.out 1).trans rfl
    have d2 := (blk_cell HBX.out 2).trans rfl
    have d3 := (blk_cell HBX.out 3).trans rfl
    rw [D3.out]
    go_wp2_with fail
    refine (awake_c _).mono ?_
    rintro e w13_ ⟨rfl, hb_⟩
    replace HB := Aside0.mk (bt HB.out hb_)
    replace HBX := Aside0.mk (blk_below HBX.out hb_)
    replace HX := Aside0.mk (Kd.C_below HX.out hb_)
    replace HY := Aside0.mk (Kd.C_below HY.out hb_)
    clear d0 d1 d2 d3
    clear hb_
    go_wp2_with fail
    go_ret
    exact ⟨ret_bool rfl, HB.out⟩
  by_cases hq : a0.lv.ask a1 a2 0 0 = 0
  rotate_left
  · have HC := Aside0.mk hc
    have n1 : a0.lv.ask a1 a2 a3 0 ≠ 0 := fun c => hq (ask_zero c)
    have n3 : a0.lv.ask a1 a2 0 a4 ≠ 0 := fun c => hq (ask_zero c)
    have E1 := Aside0.mk (hours_out (f := a1) (t := a2) (k := a3) hc n1)
    have E2 := Aside0.mk (always_out (f := a1) (t := a2) hc hq)
    have E3 := Aside0.mk (stick_out (f := a1) (t := a2) (h := a4) hc n3)
    have D1 := Aside0.mk (due_ok (f := a1) (t := a2) (k := a3) (h := 0) hc)
    have D2 := Aside0.mk (due_ok (f := a1) (t := a2) (k := 0) (h := 0) hc)
    have D3 := Aside0.mk (due_ok (f := a1) (t := a2) (k := 0) (h := a4) hc)
    rw [E1.out] at HX
    rw [E2.out] at HY
    rw [E1.out, E2.out, E3.out]
    clear E1 E2 E3
    generalize a0.lv.ask a1 a2 a3 0 = q1 at *
    generalize a0.lv.ask a1 a2 0 a4 = q3 at *
    generalize a0.lv.ask a1 a2 0 0 = q2 at *
    have t1 : (q1 != 0) = true := by simpa using n1
    have t2 : (q2 != 0) = true := by simpa using hq
    have t3 : (q3 == 0) = false := by simpa using n3
    clear n1 n3 hq hc
    refine (lasked_c a0 a1 a2 a3 0 _ (HI.out.below HB.out)).mono ?_
    rintro e w14_ ⟨rfl, hb_⟩
    replace HB := Aside0.mk (bt HB.out hb_)
    replace HBX := Aside0.mk (blk_below HBX.out hb_)
    replace HX := Aside0.mk (Kd.C_below HX.out hb_)
    replace HY := Aside0.mk (Kd.C_below HY.out hb_)
    clear d0 d1 d2 d3
    clear hb_
    have d0 := (blk_cell HBX.out 0).trans rfl
    have d1 := (blk_cell HBX.out 1).trans rfl
    have d2 := (blk_cell HBX.out 2).trans rfl
    have d3 := (blk_cell HBX.out 3).trans rfl
    rw [D1.out]
    go_wp2_with fail
    refine (lasked_c a0 a1 a2 0 0 _ (HI.out.below HB.out)).mono ?_
    rintro e w15_ ⟨rfl, hb_⟩
    replace HB := Aside0.mk (bt HB.out hb_)
    replace HBX := Aside0.mk (blk_below HBX.out hb_)
    replace HX := Aside0.mk (Kd.C_below HX.out hb_)
    replace HY := Aside0.mk (Kd.C_below HY.out hb_)
    clear d0 d1 d2 d3
    clear hb_
    have d0 := (blk_cell HBX.out 0).trans rfl
    have d1 := (blk_cell HBX.out 1).trans rfl
    have d2 := (blk_cell HBX.out 2).trans rfl
    have d3 := (blk_cell HBX.out 3).trans rfl
    rw [D2.out]
    go_wp2_with fail
    refine (lasked_c a0 a1 a2 0 a4 _ (HI.out.below HB.out)).mono ?_
    rintro e w16_ ⟨rfl, hb_⟩
    replace HB := Aside0.mk (bt HB.out hb_)
    replace HBX := Aside0.mk (blk_below HBX.out hb_)
    replace HX := Aside0.mk (Kd.C_below HX.out hb_)
    replace HY := Aside0.mk (Kd.C_below HY.out hb_)
    clear d0 d1 d2 d3
    clear hb_
    have d0 := (blk_cell HBX.out 0).trans rfl
    have d1 := (blk_cell HBX.out 1).trans rfl
    have d2 := (blk_cell HBX.out 2).trans rfl
    have d3 := (blk_cell HBX.out 3).trans rfl
    rw [D3.out]
    go_wp2_with fail
    refine (awake_c _).mono ?_
    rintro e w17_ ⟨rfl, hb_⟩
    replace HB := Aside0.mk (bt HB.out hb_)
    replace HBX := Aside0.mk (blk_below HBX.out hb_)
    replace HX := Aside0.mk (Kd.C_below HX.out hb_)
    replace HY := Aside0.mk (Kd.C_below HY.out hb_)
    clear d0 d1 d2 d3
    clear hb_
    go_wp2_with fail
    go_ret
    exact ⟨ret_bool rfl, HB.out⟩
  have HC := Aside0.mk (And.intro hc hq)
  have HAT := Aside0.mk (at_of hq)
  have E2 := Aside0.mk (always_list hc hq)
  have D2 := Aside0.mk ((due_ok (f := a1) (t := a2) (k := 0) (h := 0) hc).trans hq)
  have HLH := Aside0.mk (hours_list (k := a3) hc hq)
  rw [E2.out] at HY
  rw [E2.out]
  have HU := Aside0.mk (hours_due (L := a0.lv) (f := a1) (t := a2) (k := a3))
  have HUL := Aside0.mk (hours_len (L := a0.lv) (f := a1) (t := a2) (k := a3))
  rw [HU.out]
  clear hc hq E2
  refine (lasked_c a0 a1 a2 a3 0 _ (HI.out.below HB.out)).mono ?_
  rintro e w18_ ⟨rfl, hb_⟩
  replace HB := Aside0.mk (bt HB.out hb_)
  replace HBX := Aside0.mk (blk_below HBX.out hb_)
  replace HX := Aside0.mk (Kd.C_below HX.out hb_)
  replace HY := Aside0.mk (Kd.C_below HY.out hb_)
  clear d0 d1 d2 d3
  clear hb_
  have d0 := (blk_cell HBX.out 0).trans rfl
  have d1 := (blk_cell HBX.out 1).trans rfl
  have d2 := (blk_cell HBX.out 2).trans rfl
  have d3 := (blk_cell HBX.out 3).trans rfl
  generalize hoursE a0.lv a1 a2 a3 = hE at *
  generalize a0.lv.due a1 a2 a3 0 = q1 at *
  have lhx := HX.out.2.1
  go_upto_region 7 with (fail)
  go_cut [73] (fun s73 wx => s73 = .bool false ∧ wx = w18_)
  case first =>
    by_cases hq1 : q1 = 0
    · have t1 : (q1 != 0) = false := by simpa using hq1
      clear hq1
      go_wp2_with fail
      go_meet
      exact ⟨rfl, rfl⟩
    · have t1 : (q1 != 0) = true := by simpa using hq1
      have hz : hE.1.length = 0 := by rw [HUL.out hq1]; rfl
      clear hq1
      have hz1 : decide (0 < hE.1.length) = false := by simp [hz]
      have hz2 : decide ((0 : Int) < (hE.1.length : Int)) = false := by simp [hz]
      clear hz
      go_wp2_with fail
      go_meet
      exact ⟨rfl, rfl⟩
  case rest =>
    obtain ⟨rfl, rfl⟩ := hcut
    go_wp2_with fail
    refine (lasked_c a0 a1 a2 0 0 _ (HI.out.below HB.out)).mono ?_
    rintro e w19_ ⟨rfl, hb_⟩
    replace HB := Aside0.mk (bt HB.out hb_)
    replace HBX := Aside0.mk (blk_below HBX.out hb_)
    replace HX := Aside0.mk (Kd.C_below HX.out hb_)
    replace HY := Aside0.mk (Kd.C_below HY.out hb_)
    clear d0 d1 d2 d3
    clear hb_
    have d0 := (blk_cell HBX.out 0).trans rfl
    have d1 := (blk_cell HBX.out 1).trans rfl
    have d2 := (blk_cell HBX.out 2).trans rfl
    have d3 := (blk_cell HBX.out 3).trans rfl
    rw [D2.out]
    go_wp2_with fail
    refine (lasked_c a0 a1 a2 0 a4 _ (HI.out.below HB.out)).mono ?_
    rintro e w20_ ⟨rfl, hb_⟩
    replace HB := Aside0.mk (bt HB.out hb_)
    replace HBX := Aside0.mk (blk_below HBX.out hb_)
    replace HX := Aside0.mk (Kd.C_below HX.out hb_)
    replace HY := Aside0.mk (Kd.C_below HY.out hb_)
    clear d0 d1 d2 d3
    clear hb_
    have d0 := (blk_cell HBX.out 0).trans rfl
    have d1 := (blk_cell HBX.out 1).trans rfl
    have d2 := (blk_cell HBX.out 2).trans rfl
    have d3 := (blk_cell HBX.out 3).trans rfl
    go_upto_if 96 with (fail)
    generalize hqb : (a0.lv.due a1 a2 0 a4 == 0) = qb
    have HQB := Aside0.mk hqb
    clear hqb
    clear d0 d1 d2 d3
    go_cut [19, 20] (fun s19 s20 wx => s19 = .int .i64 (stickE a0.lv a1 a2 a4).2 ∧ s20 = .int .i64 (stickE a0.lv a1 a2 a4).1 ∧ Below w20_.heap.size w20_ wx)
    case first =>
      by_cases hq3 : a0.lv.ask a1 a2 0 a4 = 0
      rotate_left
      · have HQ3 := Aside0.mk hq3
        have D3 := Aside0.mk (due_ok (f := a1) (t := a2) (k := 0) (h := a4) HC.out.1)
        have E3 := Aside0.mk (stick_out HC.out.1 hq3)
        have t1 : qb = false := by rw [← HQB.out, D3.out]; simpa using hq3
        clear hq3 HQB
        subst t1
        go_wp2_with fail
        go_meet
        exact ⟨by rw [E3.out, D3.out], by rw [E3.out], Below.refl _ _⟩
      have D3 := Aside0.mk ((due_ok (f := a1) (t := a2) (k := 0) (h := a4) HC.out.1).trans hq3)
      have HAT3 := Aside0.mk (at_of hq3).1
      have t1 : qb = true := by rw [← HQB.out, D3.out]; rfl
      have HQ3 := Aside0.mk hq3
      clear hq3 HQB
      subst t1
      go_wp2_with fail
      have ln2 := lv_len2 a0
      have HLN := Aside0.mk ln2
      have hsm : a0.ca.length ≤ 4 := by have := (Lv.ok_of HC.out.1).ca4; rwa [ln2] at this
      clear ln2
      go_loopg [20] a0.ca.length (fun gg s20 wr => ∃ k : Nat, s20 = .int .i64 (k : Int) ∧ k ≤ a0.ca.length ∧ a0.ca.length - k ≤ gg ∧ Aside0 (stickF a0.lv a1 a2 a4 = stickK a0.lv a1 a2 a4 (a0.ca.length - k) k) ∧ Aside0 (Below w20_.heap.size w20_ wr))
      case atStart => exact ⟨0, rfl, Nat.zero_le _, Nat.le_refl _, ⟨by unfold stickF; rw [HLN.out]; rfl⟩, ⟨Below.refl _ _⟩⟩
      case round =>
        obtain ⟨k, rfl, hk, hg, HS, BW⟩ := hrel
        have HBX2 := Aside0.mk (blk_below HBX.out BW.out)
        have HB2 := Aside0.mk (bt HB.out BW.out)
        have d0 := (blk_cell HBX2.out 0).trans rfl
        have d1 := (blk_cell HBX2.out 1).trans rfl
        have d2 := (blk_cell HBX2.out 2).trans rfl
        have d3 := (blk_cell HBX2.out 3).trans rfl
        by_cases hlt : k < a0.ca.length
        · have hlti : (k : Int) < a0.ca.length := by omega
          have hd : a0.ca.length - k = (a0.ca.length - (k + 1)) + 1 := by omega
          have HS2 : Aside0 (stickF a0.lv a1 a2 a4 = if canF a0.lv a1 a2 k a4 = true then stickK a0.lv a1 a2 a4 (a0.ca.length - (k + 1)) (k + 1) else k) := ⟨by rw [HS.out, hd]; rfl⟩
          have HAK : Aside0 (a0.lv.At a1 a2 k a4) := ⟨⟨HAT3.out.f0, HAT3.out.f1, HAT3.out.t0, HAT3.out.t1, by omega, by rw [HLN.out]; omega, HAT3.out.h0, HAT3.out.h1⟩⟩
          clear hd HS
          go_wp2_with fail
          refine (rcan_c a0 a1 a2 k a4 _ (HI.out.below HB2.out) (Lv.ok_of HC.out.1) (Lv.mir_of HC.out.1) HAK.out).mono ?_
          rintro e wk_ ⟨rfl, hbk⟩
          have BW2 := Aside0.mk (bt BW.out hbk)
          have dd2 := cb hbk d2
          clear hbk d0 d1 d2 d3 HAK BW HBX2 HB2
          generalize canF a0.lv a1 a2 k a4 = cv at *
          cases cv
          · have HS3 : Aside0 (stickF a0.lv a1 a2 a4 = k) := ⟨HS2.out⟩
            have E3 := Aside0.mk (stick_ok HC.out.1 HQ3.out (by rw [HS3.out, HLN.out]; omega))
            go_wp2_with fail
            go_meet
            exact ⟨by rw [E3.out, D3.out], by rw [E3.out, HS3.out], BW2.out⟩
          · go_wp2_with fail
            go_roundg (a0.ca.length - (k + 1))
            case measure => omega
            case rel => exact ⟨k + 1, by simp, hlt, Nat.le_refl _, ⟨HS2.out⟩, BW2⟩
        · obtain rfl : k = a0.ca.length := by omega
          have E3 := Aside0.mk (stick_none HC.out.1 HQ3.out (by rw [HS.out, Nat.sub_self, HLN.out]; rfl))
          go_wp2_with fail
          go_meet
          exact ⟨by rw [E3.out], by rw [E3.out], BW.out⟩
    case rest =>
      obtain ⟨rfl, rfl, hb_⟩ := hcut
      replace HB := Aside0.mk (bt HB.out hb_)
      replace HBX := Aside0.mk (blk_below HBX.out hb_)
      replace HX := Aside0.mk (Kd.C_below HX.out hb_)
      replace HY := Aside0.mk (Kd.C_below HY.out hb_)
      clear hb_
      have d0 := (blk_cell HBX.out 0).trans rfl
      have d1 := (blk_cell HBX.out 1).trans rfl
      have d2 := (blk_cell HBX.out 2).trans rfl
      have d3 := (blk_cell HBX.out 3).trans rfl
      go_wp2_with fail
      have ln2 := lv_len2 a0
      have ln3 := lv_len3 a0
      have hsm : a0.ca.length ≤ 4 := by have := (Lv.ok_of HC.out.1).ca4; rwa [ln2] at this
      have hss : a0.su.length ≤ 12 := by have := (Lv.ok_of HC.out.1).su12; rwa [ln3] at this
      have HLN := Aside0.mk (And.intro ln2 ln3)
      clear ln2 ln3
      clear d0 d1 d2 d3
      have HB0 := Aside0.mk (And.intro HB.out (And.intro HBX.out (And.intro HX.out HY.out)))
      clear HB HBX HX HY
      go_loopg [21, 22, 23] a0.su.length (fun gg s21 s22 s23 wr => ∃ i : Int, s23 = .int .i64 i ∧ 0 ≤ i ∧ i ≤ (a0.su.length : Int) ∧ (a0.su.length : Int) - i ≤ (gg : Int) ∧ Aside0 (Below wc.heap.size wc wr) ∧ Aside0 (Kd.R (Kd.int .i64) 3 wr wc.heap.size (fun k => True ∧ some k ≠ s22.ownBlock) s21 (filK (hourP a0.lv a1 a2 a3) i.toNat)) ∧ Aside0 (Kd.R (Kd.int .i64) 3 wr wc.heap.size (fun k => True ∧ some k ≠ s21.ownBlock) s22 (filK (fun h => allK (fun c => canF a0.lv a1 a2 c h) a0.lv.ca.length) i.toNat)))
      case atStart => exact ⟨0, rfl, by omega, by omega, by omega, ⟨Below.refl _ _⟩, ⟨Kd.R_apart_nil (Kd.R_nil _ _ _ _ _)⟩, ⟨Kd.R_apart_nil (Kd.R_nil _ _ _ _ _)⟩⟩
      case round =>
        obtain ⟨i, rfl, h0, h1, hg, BC, BR1, BR2⟩ := hrel
        have HBX := Aside0.mk (blk_below HB0.out.2.1 BC.out)
        have d0 := (blk_cell HBX.out 0).trans rfl
        have d1 := (blk_cell HBX.out 1).trans rfl
        have d2 := (blk_cell HBX.out 2).trans rfl
        have d3 := (blk_cell HBX.out 3).trans rfl
        by_cases hlt : i < (a0.su.length : Int)
        · have HLT := Aside0.mk hlt
          go_wp2_with fail
          clear d0 d1 d2 d3 HBX
          go_loopg [21, 24, 25] a0.ca.length (fun gg s21 s24 s25 wr => ∃ c : Int, s25 = .int .i64 c ∧ s24 = .bool (allK (fun c => canF a0.lv a1 a2 c i) c.toNat) ∧ 0 ≤ c ∧ c ≤ (a0.ca.length : Int) ∧ (a0.ca.length : Int) - c ≤ (gg : Int) ∧ Aside0 (Below wc.heap.size wc wr) ∧ Aside0 (Kd.R (Kd.int .i64) 3 wr wc.heap.size (fun k => True ∧ some k ≠ u22.ownBlock) s21 (hrsL a0.lv a1 a2 a3 i c)) ∧ Aside0 (Kd.R (Kd.int .i64) 3 wr wc.heap.size (fun k => True ∧ some k ≠ s21.ownBlock) u22 (filK (fun h => allK (fun c => canF a0.lv a1 a2 c h) a0.lv.ca.length) i.toNat)))
          case atStart => exact ⟨0, rfl, rfl, by omega, by omega, by omega, BC, ⟨by rw [hrs_0]; exact BR1.out⟩, BR2⟩
          case round =>
            clear BC BR1 BR2
            obtain ⟨c, rfl, rfl, k0, k1, hgk, BC, BR1, BR2⟩ := hrel
            have HB2 := Aside0.mk (bt HB0.out.1 BC.out)
            have HBX := Aside0.mk (blk_below HB0.out.2.1 BC.out)
            have d0 := (blk_cell HBX.out 0).trans rfl
            have d1 := (blk_cell HBX.out 1).trans rfl
            have d2 := (blk_cell HBX.out 2).trans rfl
            have d3 := (blk_cell HBX.out 3).trans rfl
            by_cases hkt : c < (a0.ca.length : Int)
            · have HAK : Aside0 (a0.lv.At a1 a2 c i) := ⟨⟨HAT.out.1.f0, HAT.out.1.f1, HAT.out.1.t0, HAT.out.1.t1, k0, by rw [HLN.out.1]; exact hkt, h0, by rw [HLN.out.2]; exact hlt⟩⟩
              have HS := Aside0.mk (allK_succ (fun c => canF a0.lv a1 a2 c i) c.toNat)
              have ei : ((c.toNat : Nat) : Int) = c := Int.toNat_of_nonneg k0
              rw [ei] at HS
              have HS1 : Aside0 ((c + 1).toNat = c.toNat + 1) := ⟨by omega⟩
              clear ei
              have hln := hrs_len (L := a0.lv) (f := a1) (t := a2) (k := a3) (i := i) (c := c) h0
              go_wp2_with fail
              refine (rcan_c a0 a1 a2 c i _ (HI.out.below HB2.out) (Lv.ok_of HC.out.1) (Lv.mir_of HC.out.1) HAK.out).mono ?_
              rintro e wk_ ⟨rfl, hbk⟩
              have BC1 := Aside0.mk (bt BC.out hbk)
              have BR11 := Aside0.mk (Kd.R_below BR1.out hbk)
              have BR21 := Aside0.mk (Kd.R_below BR2.out hbk)
              clear hbk BC BR1 BR2 HBX HB2 d0 d1 d2 d3 HAK
              have HS2 : Aside0 (allK (fun c => canF a0.lv a1 a2 c i) (c + 1).toNat = (allK (fun c => canF a0.lv a1 a2 c i) c.toNat && canF a0.lv a1 a2 c i)) := ⟨by rw [HS1.out, HS.out]⟩
              clear HS HS1
              generalize hcv : canF a0.lv a1 a2 c i = cv at *
              have HCV := Aside0.mk hcv
              clear hcv
              generalize allK (fun c => canF a0.lv a1 a2 c i) c.toNat = ak at *
              have hcases : cv = false ∨ (cv = true ∧ (c == a3) = false) ∨ (cv = true ∧ (c == a3) = true) := by cases cv <;> cases (c == a3) <;> simp
              rcases hcases with t1 | ⟨t1, t2⟩ | ⟨t1, t2⟩
              · subst t1
                have HH : Aside0 (hrsL a0.lv a1 a2 a3 i (c + 1) = hrsL a0.lv a1 a2 a3 i c) := ⟨by by_cases e : c = a3; (subst e; rw [(hrs_eq k0).1, (hrs_eq k0).2, HCV.out]; rfl); exact hrs_ne (by simpa using e)⟩
                cases ak
                · go_wp2_with fail
                  go_roundg (a0.ca.length - (c + 1).toNat)
                  case measure => omega
                  case rel => exact ⟨c + 1, by first | rfl | go_num, by rw [HS2.out]; rfl, by omega, by omega, by omega, BC1, ⟨by rw [HH.out]; exact BR11.out⟩, BR21⟩
                · go_wp2_with fail
                  go_roundg (a0.ca.length - (c + 1).toNat)
                  case measure => omega
                  case rel => exact ⟨c + 1, by first | rfl | go_num, by rw [HS2.out]; rfl, by omega, by omega, by omega, BC1, ⟨by rw [HH.out]; exact BR11.out⟩, BR21⟩
              · subst t1
                have HH : Aside0 (hrsL a0.lv a1 a2 a3 i (c + 1) = hrsL a0.lv a1 a2 a3 i c) := ⟨hrs_ne t2⟩
                cases ak
                · go_wp2_with fail
                  go_roundg (a0.ca.length - (c + 1).toNat)
                  case measure => omega
                  case rel => exact ⟨c + 1, by first | rfl | go_num, by rw [HS2.out]; rfl, by omega, by omega, by omega, BC1, ⟨by rw [HH.out]; exact BR11.out⟩, BR21⟩
                · go_wp2_with fail
                  go_roundg (a0.ca.length - (c + 1).toNat)
                  case measure => omega
                  case rel => exact ⟨c + 1, by first | rfl | go_num, by rw [HS2.out]; rfl, by omega, by omega, by omega, BC1, ⟨by rw [HH.out]; exact BR11.out⟩, BR21⟩
              · subst t1
                have hca : c = a3 := by simpa using t2
                have HH : Aside0 (hrsL a0.lv a1 a2 a3 i c = filK (hourP a0.lv a1 a2 a3) i.toNat ∧ hrsL a0.lv a1 a2 a3 i (c + 1) = filK (hourP a0.lv a1 a2 a3) i.toNat ++ [i]) := ⟨by subst hca; exact ⟨(hrs_eq k0).1, by rw [(hrs_eq k0).2, HCV.out]; rfl⟩⟩
                rw [HH.out.1] at BR11 hln
                clear hca
                cases ak
                · go_wp2_with (first | ((with_reducible refine gate_builtin (b := .append) (xs := #[.tmp 158, .tmp 160]) rfl ?_); at_builtin; refine Kd.R_append (Kd.int .i64) (w0 := wc) wc.heap.size rfl (.tmp 158) (.tmp 160) 30 3 (.int .i64 0) 8 rfl Try.underlying30 info3 rfl (by decide) (by omega) _ (filK (hourP a0.lv a1 a2 a3) i.toNat) i [.int .i64 i] (fun k => True ∧ some k ≠ u22.ownBlock) (fun _ => False) rfl rfl ?aP (fun _ hk => hk.elim) ?aF ?aO ?aB ?aS ?aL ?_; (case aP => exact rfl); (case aB => exact BC1.out); (case aF => exact (fun k hk => ⟨trivial, fun e => by obtain ⟨_, _, h2, _⟩ := (Kd.R_bound BR21.out).1 k e.symm; omega⟩)); (case aO => exact BR11.out); (case aS => exact below_size BC1.out); (case aL => omega); intro v3 w4 ho hb hg4 hat; have BC2 := Aside0.mk hb; have BR12 := Aside0.mk ho; have BR22 := Aside0.mk (Kd.R_after BR21.out hg4 hat); clear BC1 BR11 BR21; clear ho hb hg4 hat))
                  go_roundg (a0.ca.length - (c + 1).toNat)
                  case measure => omega
                  case rel => exact ⟨c + 1, by first | rfl | go_num, by rw [HS2.out]; rfl, by omega, by omega, by omega, BC2, ⟨by rw [HH.out.2]; exact BR12.out⟩, BR22⟩
                · go_wp2_with (first | ((with_reducible refine gate_builtin (b := .append) (xs := #[.tmp 158, .tmp 160]) rfl ?_); at_builtin; refine Kd.R_append (Kd.int .i64) (w0 := wc) wc.heap.size rfl (.tmp 158) (.tmp 160) 30 3 (.int .i64 0) 8 rfl Try.underlying30 info3 rfl (by decide) (by omega) _ (filK (hourP a0.lv a1 a2 a3) i.toNat) i [.int .i64 i] (fun k => True ∧ some k ≠ u22.ownBlock) (fun _ => False) rfl rfl ?aP (fun _ hk => hk.elim) ?aF ?aO ?aB ?aS ?aL ?_; (case aP => exact rfl); (case aB => exact BC1.out); (case aF => exact (fun k hk => ⟨trivial, fun e => by obtain ⟨_, _, h2, _⟩ := (Kd.R_bound BR21.out).1 k e.symm; omega⟩)); (case aO => exact BR11.out); (case aS => exact below_size BC1.out); (case aL => omega); intro v3 w4 ho hb hg4 hat; have BC2 := Aside0.mk hb; have BR12 := Aside0.mk ho; have BR22 := Aside0.mk (Kd.R_after BR21.out hg4 hat); clear BC1 BR11 BR21; clear ho hb hg4 hat))
                  go_roundg (a0.ca.length - (c + 1).toNat)
                  case measure => omega
                  case rel => exact ⟨c + 1, by first | rfl | go_num, by rw [HS2.out]; rfl, by omega, by omega, by omega, BC2, ⟨by rw [HH.out.2]; exact BR12.out⟩, BR22⟩
            · have hce : c = (a0.ca.length : Int) := by omega
              have HEND : Aside0 (hrsL a0.lv a1 a2 a3 i c = filK (hourP a0.lv a1 a2 a3) (i.toNat + 1)) := ⟨by rw [hce, ← HLN.out.1]; exact hrs_end h0⟩
              rw [HEND.out] at BR1
              have HPA : Aside0 (allK (fun c => canF a0.lv a1 a2 c i) c.toNat = (fun h => allK (fun c => canF a0.lv a1 a2 c h) a0.lv.ca.length) i) := ⟨by rw [hce, Int.toNat_natCast, ← HLN.out.1]⟩
              have HN := Aside0.mk (filK_succ (fun h => allK (fun c => canF a0.lv a1 a2 c h) a0.lv.ca.length) i.toNat)
              have ei : ((i.toNat : Nat) : Int) = i := Int.toNat_of_nonneg h0
              rw [ei] at HN
              have HS1 : Aside0 ((i + 1).toNat = i.toNat + 1) := ⟨by omega⟩
              have hln := filK_len (fun h => allK (fun c => canF a0.lv a1 a2 c h) a0.lv.ca.length) i.toNat
              clear ei
              subst hce
              generalize allK (fun c => canF a0.lv a1 a2 c i) ((a0.ca.length : Int).toNat) = ak at *
              cases ak
              · go_wp2_with fail
                go_roundg (a0.su.length - (i + 1).toNat)
                case measure => omega
                case rel => exact ⟨i + 1, by first | rfl | go_num, by omega, by omega, by omega, BC, ⟨by rw [HS1.out]; exact BR1.out⟩, ⟨by rw [HS1.out, HN.out]; exact by rw [if_neg (by rw [← HPA.out]; decide)]; exact BR2.out⟩⟩
              · go_wp2_with (first | ((with_reducible refine gate_builtin (b := .append) (xs := #[.tmp 163, .tmp 165]) rfl ?_); at_builtin; refine Kd.R_append (Kd.int .i64) (w0 := wc) wc.heap.size rfl (.tmp 163) (.tmp 165) 30 3 (.int .i64 0) 8 rfl Try.underlying30 info3 rfl (by decide) (by omega) _ (filK (fun h => allK (fun c => canF a0.lv a1 a2 c h) a0.lv.ca.length) i.toNat) i [.int .i64 i] (fun k => True ∧ some k ≠ u21.ownBlock) (fun _ => False) rfl rfl ?aP (fun _ hk => hk.elim) ?aF ?aO ?aB ?aS ?aL ?_; (case aP => exact rfl); (case aB => exact BC.out); (case aF => exact (fun k hk => ⟨trivial, fun e => by obtain ⟨_, _, h2, _⟩ := (Kd.R_bound BR1.out).1 k e.symm; omega⟩)); (case aO => exact BR2.out); (case aS => exact below_size BC.out); (case aL => omega); intro v3 w4 ho hb hg4 hat; have BC2 := Aside0.mk hb; have BR22 := Aside0.mk ho; have BR12 := Aside0.mk (Kd.R_after BR1.out hg4 hat); clear BC BR1 BR2; clear ho hb hg4 hat))
                go_roundg (a0.su.length - (i + 1).toNat)
                case measure => omega
                case rel => exact ⟨i + 1, by first | rfl | go_num, by omega, by omega, by omega, BC2, ⟨by rw [HS1.out]; exact BR12.out⟩, ⟨by rw [HS1.out, HN.out]; exact by rw [if_pos (by rw [← HPA.out])]; exact BR22.out⟩⟩
        · obtain rfl : i = (a0.su.length : Int) := by omega
          obtain ⟨Aq, cq, rfl, _, hQ⟩ := Kd.R_reads BR1.out
          obtain ⟨As, cs, rfl, _, hS⟩ := Kd.R_reads BR2.out
          rw [Int.toNat_natCast] at hQ hS ⊢
          have HB := Aside0.mk (bt HB0.out.1 BC.out)
          have HX := Aside0.mk (Kd.C_below HB0.out.2.2.1 BC.out)
          have HY := Aside0.mk (Kd.C_below HB0.out.2.2.2 BC.out)
          have HQ := Aside0.mk hQ
          have HS := Aside0.mk hS
          have tx : Aside0 ((hE.1 == filK (hourP a0.lv a1 a2 a3) a0.su.length) = true) := ⟨by rw [HLH.out, HLN.out.2]; simp⟩
          have ty : Aside0 ((filK (fun h => allK (fun c => canF a0.lv a1 a2 c h) a0.lv.ca.length) a0.lv.su.length == filK (fun h => allK (fun c => canF a0.lv a1 a2 c h) a0.lv.ca.length) a0.su.length) = true) := ⟨by rw [HLN.out.2]; simp⟩
          have lx := HX.out.2.1
          have ly := HY.out.2.1
          have lq := HQ.out.2.1
          have ls := HS.out.2.1
          generalize filK (hourP a0.lv a1 a2 a3) a0.su.length = q1_ at *
          generalize filK (fun h => allK (fun c => canF a0.lv a1 a2 c h) a0.lv.ca.length) a0.su.length = q2_ at *
          generalize filK (fun h => allK (fun c => canF a0.lv a1 a2 c h) a0.lv.ca.length) a0.lv.su.length = q3_ at *
          clear hQ hS BC BR1 BR2 HB0 HLH
          go_wp2_with fail
          refine (ints_c Ah Aq ch cq hE.1 q1_ _ HX.out HQ.out).mono ?_
          rintro e w21_ ⟨rfl, hb_⟩
          replace HB := Aside0.mk (bt HB.out hb_)
          replace HBX := Aside0.mk (blk_below HBX.out hb_)
          replace HX := Aside0.mk (Kd.C_below HX.out hb_)
          replace HY := Aside0.mk (Kd.C_below HY.out hb_)
          replace HQ := Aside0.mk (Kd.C_below HQ.out hb_)
          replace HS := Aside0.mk (Kd.C_below HS.out hb_)
          clear d0 d1 d2 d3
          clear hb_
          have d0 := (blk_cell HBX.out 0).trans rfl
          have d1 := (blk_cell HBX.out 1).trans rfl
          have d2 := (blk_cell HBX.out 2).trans rfl
          have d3 := (blk_cell HBX.out 3).trans rfl
          rw [tx.out]
          go_wp2_with fail
          refine (ints_c Aa As ca_ cs q3_ q2_ _ HY.out HS.out).mono ?_
          rintro e w22_ ⟨rfl, hb_⟩
          replace HB := Aside0.mk (bt HB.out hb_)
          replace HBX := Aside0.mk (blk_below HBX.out hb_)
          replace HX := Aside0.mk (Kd.C_below HX.out hb_)
          replace HY := Aside0.mk (Kd.C_below HY.out hb_)
          replace HQ := Aside0.mk (Kd.C_below HQ.out hb_)
          replace HS := Aside0.mk (Kd.C_below HS.out hb_)
          clear d0 d1 d2 d3
          clear hb_
          have d0 := (blk_cell HBX.out 0).trans rfl
          have d1 := (blk_cell HBX.out 1).trans rfl
          have d2 := (blk_cell HBX.out 2).trans rfl
          have d3 := (blk_cell HBX.out 3).trans rfl
          rw [ty.out]
          go_wp2_with fail
          refine (awake_c _).mono ?_
          rintro e w23_ ⟨rfl, hb_⟩
          replace HB := Aside0.mk (bt HB.out hb_)
          replace HBX := Aside0.mk (blk_below HBX.out hb_)
          replace HX := Aside0.mk (Kd.C_below HX.out hb_)
          replace HY := Aside0.mk (Kd.C_below HY.out hb_)
          replace HQ := Aside0.mk (Kd.C_below HQ.out hb_)
          replace HS := Aside0.mk (Kd.C_below HS.out hb_)
          clear d0 d1 d2 d3
          clear hb_
          go_wp2_with fail
          go_ret
          exact ⟨ret_bool rfl, HB.out⟩
end Go.Proofs.Ytkbdphjnpieceaa.G
