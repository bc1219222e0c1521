/- HillWhys: the walk. -/
import Derived.Test.YtkbdphjnpieceaaL6
namespace Go.Proofs.Ytkbdphjnpieceaa.G
open Go.RowKit Go.Proofs.YtkbdphjnpieceaaW.PrintWords Go.Proofs.YtkbdphjnpieceaaW.PrintLast Go.Proofs.YtkbdphjnpieceaaW.PrintMore
set_option linter.unusedVariables false
set_option linter.unusedSimpArgs false
set_option maxHeartbeats 8000000 in
set_option maxRecDepth 100000 in
theorem hillWhys_c (a0 : Rv) (a1 : Int) (a2 : Int) (a3 : Int) (a4 : Int) (w : World) (h0 : a0.In w) (h1 : (Lit.int .i64 a1).wf = true) (h2 : (Lit.int .i64 a2).wf = true) (h3 : (Lit.int .i64 a3).wf = true) (h4 : (Lit.int .i64 a4).wf = true) :
    Calls Try.prog 12 #[.agg a0.cells, .int .i64 a1, .int .i64 a2, .int .i64 a3, .int .i64 a4] w fun e w' => e = .returned (.bool true) ∧ Below w.heap.size w w' := by
  have HI := Aside0.mk h0
  have HB := Aside0.mk (b1 w (.cells a0.cells 27))
  have HBX := Aside0.mk (blk_new w (.cells a0.cells 27))
  have l0 := h0.r0.2.1
  have l1 := h0.r1.2.1
  have l2 := h0.r2.2.1
  have l3 := h0.r3.2.1
  clear h0
  simp only [Rv.cells] at *
  by_cases hth : a0.thin = true
  rotate_left
  · have HT : Aside0 (a0.thin = false) := ⟨by simpa using hth⟩
    clear hth
    go_enter Try.func12, Try.ntmps12
    have d0 := (blk_cell HBX.out 0).trans rfl
    have d1 := (blk_cell HBX.out 1).trans rfl
    have d2 := (blk_cell HBX.out 2).trans rfl
    have d3 := (blk_cell HBX.out 3).trans rfl
    go_wp2_with fail
    refine (thin_c a0 _ (HI.out.below HB.out)).mono ?_
    rintro e w1_ ⟨rfl, hb_⟩
    replace HB := Aside0.mk (bt HB.out hb_)
    replace HBX := Aside0.mk (blk_below HBX.out hb_)
    clear d0 d1 d2 d3
    clear hb_
    have d0 := (blk_cell HBX.out 0).trans rfl
    have d1 := (blk_cell HBX.out 1).trans rfl
    have d2 := (blk_cell HBX.out 2).trans rfl
    have d3 := (blk_cell HBX.out 3).trans rfl
    rw [HT.out]
    go_wp2_with fail
    refine (awake_c _).mono ?_
    rintro e w2_ ⟨rfl, hb_⟩
    replace HB := Aside0.mk (bt HB.out hb_)
    replace HBX := Aside0.mk (blk_below HBX.out hb_)
    clear d0 d1 d2 d3
    clear hb_
    go_wp2_with fail
    go_ret
    exact ⟨ret_bool rfl, HB.out⟩
  have HT := Aside0.mk hth
  have HF := Aside0.mk (Rv.few_of hth)
  clear hth
  go_enter Try.func12, Try.ntmps12
  have d0 := (blk_cell HBX.out 0).trans rfl
  have d1 := (blk_cell HBX.out 1).trans rfl
  have d2 := (blk_cell HBX.out 2).trans rfl
  have d3 := (blk_cell HBX.out 3).trans rfl
  go_wp2_with fail
  refine (thin_c a0 _ (HI.out.below HB.out)).mono ?_
  rintro e w3_ ⟨rfl, hb_⟩
  replace HB := Aside0.mk (bt HB.out hb_)
  replace HBX := Aside0.mk (blk_below HBX.out hb_)
  clear d0 d1 d2 d3
  clear hb_
  have d0 := (blk_cell HBX.out 0).trans rfl
  have d1 := (blk_cell HBX.out 1).trans rfl
  have d2 := (blk_cell HBX.out 2).trans rfl
  have d3 := (blk_cell HBX.out 3).trans rfl
  rw [HT.out]
  go_wp2_with fail
  refine (lland_c a0 _ (HI.out.below HB.out) HF.out).mono ?_
  rintro e w4_ ⟨L, rfl, hO, hL, hb_⟩
  replace HB := Aside0.mk (bt HB.out hb_)
  replace HBX := Aside0.mk (blk_below HBX.out hb_)
  clear d0 d1 d2 d3
  clear hb_
  have d0 := (blk_cell HBX.out 0).trans rfl
  have d1 := (blk_cell HBX.out 1).trans rfl
  have d2 := (blk_cell HBX.out 2).trans rfl
  have d3 := (blk_cell HBX.out 3).trans rfl
  have HO := Aside0.mk hO
  have HL := Aside0.mk hL
  clear hO hL
  go_wp2_with fail
  refine (of_check HO.out HL.out).mono ?_
  rintro e w5_ ⟨rfl, hb_⟩
  replace HB := Aside0.mk (bt HB.out hb_)
  replace HBX := Aside0.mk (blk_below HBX.out hb_)
  clear d0 d1 d2 d3
  clear hb_
  have d0 := (blk_cell HBX.out 0).trans rfl
  have d1 := (blk_cell HBX.out 1).trans rfl
  have d2 := (blk_cell HBX.out 2).trans rfl
  have d3 := (blk_cell HBX.out 3).trans rfl
  clear HO HL
  go_wp2_with fail
  refine (lland_c a0 _ (HI.out.below HB.out) HF.out).mono ?_
  rintro e w6_ ⟨L, rfl, hO, hL, hb_⟩
  replace HB := Aside0.mk (bt HB.out hb_)
  replace HBX := Aside0.mk (blk_below HBX.out hb_)
  clear d0 d1 d2 d3
  clear hb_
  have d0 := (blk_cell HBX.out 0).trans rfl
  have d1 := (blk_cell HBX.out 1).trans rfl
  have d2 := (blk_cell HBX.out 2).trans rfl
  have d3 := (blk_cell HBX.out 3).trans rfl
  have HO := Aside0.mk hO
  have HL := Aside0.mk hL
  clear hO hL
  go_wp2_with fail
  refine (of_why HO.out HL.out a1 a2 a3 a4).mono ?_
  rintro e w7_ ⟨rfl, hb_⟩
  replace HB := Aside0.mk (bt HB.out hb_)
  replace HBX := Aside0.mk (blk_below HBX.out hb_)
  clear d0 d1 d2 d3
  clear hb_
  have d0 := (blk_cell HBX.out 0).trans rfl
  have d1 := (blk_cell HBX.out 1).trans rfl
  have d2 := (blk_cell HBX.out 2).trans rfl
  have d3 := (blk_cell HBX.out 3).trans rfl
  clear HO HL
  go_wp2_with fail
  refine (lland_c a0 _ (HI.out.below HB.out) HF.out).mono ?_
  rintro e w8_ ⟨L, rfl, hO, hL, hb_⟩
  replace HB := Aside0.mk (bt HB.out hb_)
  replace HBX := Aside0.mk (blk_below HBX.out hb_)
  clear d0 d1 d2 d3
  clear hb_
  have d0 := (blk_cell HBX.out 0).trans rfl
  have d1 := (blk_cell HBX.out 1).trans rfl
  have d2 := (blk_cell HBX.out 2).trans rfl
  have d3 := (blk_cell HBX.out 3).trans rfl
  have HO := Aside0.mk hO
  have HL := Aside0.mk hL
  clear hO hL
  go_wp2_with fail
  refine (of_walls HO.out HL.out a1 a2 a3 a4).mono ?_
  rintro e w9_ ⟨Ax, cx, Ay, cy, rfl, hX, hY, hb_⟩
  replace HB := Aside0.mk (bt HB.out hb_)
  replace HBX := Aside0.mk (blk_below HBX.out hb_)
  clear d0 d1 d2 d3
  clear hb_
  have d0 := (blk_cell HBX.out 0).trans rfl
  have d1 := (blk_cell HBX.out 1).trans rfl
  have d2 := (blk_cell HBX.out 2).trans rfl
  have d3 := (blk_cell HBX.out 3).trans rfl
  have HX := Aside0.mk hX
  have HY := Aside0.mk hY
  clear hX hY HO HL
  go_wp2_with fail
  refine (lfault_c a0 _ (HI.out.below HB.out)).mono ?_
  rintro e w10_ ⟨rfl, hb_⟩
  replace HB := Aside0.mk (bt HB.out hb_)
  replace HBX := Aside0.mk (blk_below HBX.out hb_)
  replace HX := Aside0.mk (Kd.C_below HX.out hb_)
  replace HY := Aside0.mk (Kd.C_below HY.out hb_)
  clear d0 d1 d2 d3
  clear hb_
  have d0 := (blk_cell HBX.out 0).trans rfl
  have d1 := (blk_cell HBX.out 1).trans rfl
  have d2 := (blk_cell HBX.out 2).trans rfl
  have d3 := (blk_cell HBX.out 3).trans rfl
  by_cases hc : a0.lv.check = 0
  rotate_left
  · have HC := Aside0.mk hc
    have HW := Aside0.mk (why_bad (f := a1) (t := a2) (k := a3) (h := a4) hc)
    have HV := Aside0.mk (walls_bad (f := a1) (t := a2) (k := a3) (h := a4) hc)
    have HDUE := Aside0.mk (due_bad (f := a1) (t := a2) (k := a3) (h := a4) hc)
    rw [HW.out, HV.out]
    rw [HV.out] at HX HY
    clear HW HV
    generalize a0.lv.check = c at *
    have t1 : (c != 0) = true := by simpa using hc
    clear hc
    go_wp2_with fail
    refine (lasked_c a0 a1 a2 a3 a4 _ (HI.out.below HB.out)).mono ?_
    rintro e w11_ ⟨rfl, hb_⟩
    replace HB := Aside0.mk (bt HB.out hb_)
    replace HBX := Aside0.mk (blk_below HBX.out hb_)
    replace HX := Aside0.mk (Kd.C_below HX.out hb_)
    replace HY := Aside0.mk (Kd.C_below HY.out hb_)
    clear d0 d1 d2 d3
    clear hb_
    have d0 := (blk_cell HBX.out 0).trans rfl
    have d1 := (blk_cell HBX.out 1).trans rfl
    have d2 := (blk_cell HBX.out 2).trans rfl
    have d3 := (blk_cell HBX.out 3).trans rfl
    rw [HDUE.out]
    go_wp2_with fail
    refine (awake_c _).mono ?_
    rintro e w12_ ⟨rfl, hb_⟩
    replace HB := Aside0.mk (bt HB.out hb_)
    replace HBX := Aside0.mk (blk_below HBX.out hb_)
    replace HX := Aside0.mk (Kd.C_below HX.out hb_)
    replace HY := Aside0.mk (Kd.C_below HY.out hb_)
    clear d0 d1 d2 d3
    clear hb_
    go_wp2_with fail
    go_ret
    exact ⟨ret_bool rfl, HB.out⟩
  by_cases hq : a0.lv.ask a1 a2 a3 a4 = 0
  rotate_left
  · have HC := Aside0.mk hc
    have HW := Aside0.mk (why_out (f := a1) (t := a2) (k := a3) (h := a4) hc hq)
    have HV := Aside0.mk (walls_out (f := a1) (t := a2) (k := a3) (h := a4) hc hq)
    have HDUE := Aside0.mk ((due_ok (f := a1) (t := a2) (k := a3) (h := a4) hc))
    rw [HW.out, HV.out]
    rw [HV.out] at HX HY
    clear HW HV
    rw [hc]
    generalize a0.lv.ask a1 a2 a3 a4 = q at *
    have t1 : (q != 0) = true := by simpa using hq
    clear hq hc
    go_wp2_with fail
    refine (lasked_c a0 a1 a2 a3 a4 _ (HI.out.below HB.out)).mono ?_
    rintro e w13_ ⟨rfl, hb_⟩
    replace HB := Aside0.mk (bt HB.out hb_)
    replace HBX := Aside0.mk (blk_below HBX.out hb_)
    replace HX := Aside0.mk (Kd.C_below HX.out hb_)
    replace HY := Aside0.mk (Kd.C_below HY.out hb_)
    clear d0 d1 d2 d3
    clear hb_
    have d0 := (blk_cell HBX.out 0).trans rfl
    have d1 := (blk_cell HBX.out 1).trans rfl
    have d2 := (blk_cell HBX.out 2).trans rfl
    have d3 := (blk_cell HBX.out 3).trans rfl
    rw [HDUE.out]
    go_wp2_with fail
    refine (awake_c _).mono ?_
    rintro e w14_ ⟨rfl, hb_⟩
    replace HB := Aside0.mk (bt HB.out hb_)
    replace HBX := Aside0.mk (blk_below HBX.out hb_)
    replace HX := Aside0.mk (Kd.C_below HX.out hb_)
    replace HY := Aside0.mk (Kd.C_below HY.out hb_)
    clear d0 d1 d2 d3
    clear hb_
    go_wp2_with fail
    go_ret
    exact ⟨ret_bool rfl, HB.out⟩
  have HC := Aside0.mk (And.intro hc (at_of hq).1)
  have HW := Aside0.mk (why_ok (f := a1) (t := a2) (k := a3) (h := a4) hc hq)
  have HV := Aside0.mk (walls_ok (f := a1) (t := a2) (k := a3) (h := a4) hc hq)
  have HDUE := Aside0.mk ((due_ok (f := a1) (t := a2) (k := a3) (h := a4) hc).trans hq)
  rw [HW.out, HV.out]
  rw [HV.out] at HX HY
  clear HW HV
  rw [hc]
  clear hc hq
  go_wp2_with fail
  refine (lasked_c a0 a1 a2 a3 a4 _ (HI.out.below HB.out)).mono ?_
  rintro e w15_ ⟨rfl, hb_⟩
  replace HB := Aside0.mk (bt HB.out hb_)
  replace HBX := Aside0.mk (blk_below HBX.out hb_)
  replace HX := Aside0.mk (Kd.C_below HX.out hb_)
  replace HY := Aside0.mk (Kd.C_below HY.out hb_)
  clear d0 d1 d2 d3
  clear hb_
  have d0 := (blk_cell HBX.out 0).trans rfl
  have d1 := (blk_cell HBX.out 1).trans rfl
  have d2 := (blk_cell HBX.out 2).trans rfl
  have d3 := (blk_cell HBX.out 3).trans rfl
  rw [HDUE.out]
  go_wp2_with fail
  refine (rwhy_c a0 a1 a2 a3 a4 _ (HI.out.below HB.out) (Lv.ok_of HC.out.1) (Lv.mir_of HC.out.1) HC.out.2).mono ?_
  rintro e w16_ ⟨rfl, hb_⟩
  replace HB := Aside0.mk (bt HB.out hb_)
  replace HBX := Aside0.mk (blk_below HBX.out hb_)
  replace HX := Aside0.mk (Kd.C_below HX.out hb_)
  replace HY := Aside0.mk (Kd.C_below HY.out hb_)
  clear d0 d1 d2 d3
  clear hb_
  have d0 := (blk_cell HBX.out 0).trans rfl
  have d1 := (blk_cell HBX.out 1).trans rfl
  have d2 := (blk_cell HBX.out 2).trans rfl
  have d3 := (blk_cell HBX.out 3).trans rfl
  go_wp2_with fail
  refine (rwalls_rd a0 a1 a2 a3 a4 _ (HI.out.below HB.out) (Lv.ok_of HC.out.1) HC.out.2).mono ?_
  rintro e w17_ ⟨Au, cu, Av, cv, rfl, hU, hV, hb_⟩
  replace HB := Aside0.mk (bt HB.out hb_)
  replace HBX := Aside0.mk (blk_below HBX.out hb_)
  replace HX := Aside0.mk (Kd.C_below HX.out hb_)
  replace HY := Aside0.mk (Kd.C_below HY.out hb_)
  clear d0 d1 d2 d3
  clear hb_
  have d0 := (blk_cell HBX.out 0).trans rfl
  have d1 := (blk_cell HBX.out 1).trans rfl
  have d2 := (blk_cell HBX.out 2).trans rfl
  have d3 := (blk_cell HBX.out 3).trans rfl
  have HU := Aside0.mk hU
  have HV := Aside0.mk hV
  clear hU hV
  generalize whyF a0.lv a1 a2 a3 a4 = pw at *
  go_wp2_with fail
  generalize ridgesL a0.lv a1 a2 = xs at *
  generalize cloudsL a0.lv a1 a2 a3 a4 = ys at *
  have tx : (xs == xs) = true := by simp
  have ty : (ys == ys) = true := by simp
  refine (ints_c Ax Au cx cu xs xs _ HX.out HU.out).mono ?_
  rintro e w18_ ⟨rfl, hb_⟩
  replace HB := Aside0.mk (bt HB.out hb_)
  replace HBX := Aside0.mk (blk_below HBX.out hb_)
  replace HX := Aside0.mk (Kd.C_below HX.out hb_)
  replace HY := Aside0.mk (Kd.C_below HY.out hb_)
  replace HU := Aside0.mk (Kd.C_below HU.out hb_)
  replace HV := Aside0.mk (Kd.C_below HV.out hb_)
  clear d0 d1 d2 d3
  clear hb_
  have d0 := (blk_cell HBX.out 0).trans rfl
  have d1 := (blk_cell HBX.out 1).trans rfl
  have d2 := (blk_cell HBX.out 2).trans rfl
  have d3 := (blk_cell HBX.out 3).trans rfl
  rw [tx]
  go_wp2_with fail
  refine (ints_c Ay Av cy cv ys ys _ HY.out HV.out).mono ?_
  rintro e w19_ ⟨rfl, hb_⟩
  replace HB := Aside0.mk (bt HB.out hb_)
  replace HBX := Aside0.mk (blk_below HBX.out hb_)
  replace HX := Aside0.mk (Kd.C_below HX.out hb_)
  replace HY := Aside0.mk (Kd.C_below HY.out hb_)
  replace HU := Aside0.mk (Kd.C_below HU.out hb_)
  replace HV := Aside0.mk (Kd.C_below HV.out hb_)
  clear d0 d1 d2 d3
  clear hb_
  have d0 := (blk_cell HBX.out 0).trans rfl
  have d1 := (blk_cell HBX.out 1).trans rfl
  have d2 := (blk_cell HBX.out 2).trans rfl
  have d3 := (blk_cell HBX.out 3).trans rfl
  rw [ty]
  go_wp2_with fail
  refine (awake_c _).mono ?_
  rintro e w20_ ⟨rfl, hb_⟩
  replace HB := Aside0.mk (bt HB.out hb_)
  replace HBX := Aside0.mk (blk_below HBX.out hb_)
  replace HX := Aside0.mk (Kd.C_below HX.out hb_)
  replace HY := Aside0.mk (Kd.C_below HY.out hb_)
  replace HU := Aside0.mk (Kd.C_below HU.out hb_)
  replace HV := Aside0.mk (Kd.C_below HV.out hb_)
  clear d0 d1 d2 d3
  clear hb_
  go_wp2_with fail
  go_ret
  exact ⟨ret_bool rfl, HB.out⟩
end Go.Proofs.Ytkbdphjnpieceaa.G
