/- HillWays: the walk. -/
import Derived.Test.YtkbdphjnpieceaaL9
namespace Go.Proofs.Ytkbdphjnpieceaa.G
open Go.RowKit Go.Proofs.YtkbdphjnpieceaaW.PrintWords Go.Proofs.YtkbdphjnpieceaaW.PrintLast Go.Proofs.YtkbdphjnpieceaaW.PrintMore
set_option linter.unusedVariables false
set_option linter.unusedSimpArgs false
set_option maxHeartbeats 8000000 in
set_option maxRecDepth 100000 in
theorem hillWays_c (a0 : Rv) (a1 : Int) (a2 : Int) (a3 : Int) (w : World) (h0 : a0.In w) (h1 : (Lit.int .u8 a1).wf = true) (h2 : (Lit.int .u8 a2).wf = true) (h3 : (Lit.int .u8 a3).wf = true) :
    Calls Try.prog 13 #[.agg a0.cells, .int .u8 a1, .int .u8 a2, .int .u8 a3] w fun e w' => e = .returned (.bool true) ∧ Below w.heap.size w w' := by
  have HI := Aside0.mk h0
  have HB := Aside0.mk (b1 w (.cells a0.cells 27))
  have HBX := Aside0.mk (blk_new w (.cells a0.cells 27))
  have l0 := h0.r0.2.1
  have l1 := h0.r1.2.1
  have l2 := h0.r2.2.1
  have l3 := h0.r3.2.1
  clear h0
  simp only [Rv.cells] at *
  by_cases hth : a0.rdy = true
  rotate_left
  · have HT : Aside0 (a0.rdy = false) := ⟨by simpa using hth⟩
    clear hth
    go_enter Try.func13, Try.ntmps13
    have d0 := (blk_cell HBX.out 0).trans rfl
    have d1 := (blk_cell HBX.out 1).trans rfl
    have d2 := (blk_cell HBX.out 2).trans rfl
    have d3 := (blk_cell HBX.out 3).trans rfl
    go_wp2_with fail
    refine (ready_c a0 _ (HI.out.below HB.out)).mono ?_
    rintro e w1_ ⟨rfl, hb_⟩
    replace HB := Aside0.mk (bt HB.out hb_)
    replace HBX := Aside0.mk (blk_below HBX.out hb_)
    clear d0 d1 d2 d3
    clear hb_
    have d0 := (blk_cell HBX.out 0).trans rfl
    have d1 := (blk_cell HBX.out 1).trans rfl
    have d2 := (blk_cell HBX.out 2).trans rfl
    have d3 := (blk_cell HBX.out 3).trans rfl
    rw [HT.out]
    go_wp2_with fail
    refine (awake_c _).mono ?_
    rintro e w2_ ⟨rfl, hb_⟩
    replace HB := Aside0.mk (bt HB.out hb_)
    replace HBX := Aside0.mk (blk_below HBX.out hb_)
    clear d0 d1 d2 d3
    clear hb_
    go_wp2_with fail
    go_ret
    exact ⟨ret_bool rfl, HB.out⟩
  have HT := Aside0.mk hth
  have HF := Aside0.mk (rdy_of hth).1
  have HC := Aside0.mk (rdy_of hth).2.1
  have HLEN := Aside0.mk (rdy_of hth).2.2
  clear hth
  obtain ⟨hs2, hs6, hr6, hc1, hc4, hu1, hu12⟩ := HLEN.out
  go_enter Try.func13, Try.ntmps13
  have d0 := (blk_cell HBX.out 0).trans rfl
  have d1 := (blk_cell HBX.out 1).trans rfl
  have d2 := (blk_cell HBX.out 2).trans rfl
  have d3 := (blk_cell HBX.out 3).trans rfl
  go_wp2_with fail
  refine (ready_c a0 _ (HI.out.below HB.out)).mono ?_
  rintro e w3_ ⟨rfl, hb_⟩
  replace HB := Aside0.mk (bt HB.out hb_)
  replace HBX := Aside0.mk (blk_below HBX.out hb_)
  clear d0 d1 d2 d3
  clear hb_
  have d0 := (blk_cell HBX.out 0).trans rfl
  have d1 := (blk_cell HBX.out 1).trans rfl
  have d2 := (blk_cell HBX.out 2).trans rfl
  have d3 := (blk_cell HBX.out 3).trans rfl
  rw [HT.out]
  go_wp2_with fail
  refine (pair_c a0 a1 _ hs2 (by omega) h1).mono ?_
  rintro e w4_ ⟨rfl, hb_⟩
  replace HB := Aside0.mk (bt HB.out hb_)
  replace HBX := Aside0.mk (blk_below HBX.out hb_)
  clear d0 d1 d2 d3
  clear hb_
  have d0 := (blk_cell HBX.out 0).trans rfl
  have d1 := (blk_cell HBX.out 1).trans rfl
  have d2 := (blk_cell HBX.out 2).trans rfl
  have d3 := (blk_cell HBX.out 3).trans rfl
  have HP := Aside0.mk (pair_bd (n := (a0.st.length : Int)) (q := a1) (by omega) (u8_bd h1).1)
  generalize pairA a0.st.length a1 = pa at *
  generalize pairB a0.st.length a1 = pb at *
  go_wp2_with fail
  go_upto_region 4 with (fail)
  have q2 := u8_bd h2
  have q3 := u8_bd h3
  go_cut [11, 12] (fun s11 s12 wx => s11 = .int .i64 (a2 % (a0.ca.length : Int)) ∧ s12 = .int .i64 (a3 % (a0.su.length : Int)) ∧ Below w4_.heap.size w4_ wx)
  case first =>
    go_region
    all_goals go_wp2_with fail
    all_goals go_meet
    all_goals exact ⟨rfl, rfl, below_drew (Below.refl _ _)⟩
  case rest =>
    obtain ⟨rfl, rfl, hb_⟩ := hcut
    replace HB := Aside0.mk (bt HB.out hb_)
    replace HBX := Aside0.mk (blk_below HBX.out hb_)
    clear d0 d1 d2 d3
    clear hb_
    have d0 := (blk_cell HBX.out 0).trans rfl
    have d1 := (blk_cell HBX.out 1).trans rfl
    have d2 := (blk_cell HBX.out 2).trans rfl
    have d3 := (blk_cell HBX.out 3).trans rfl
    have HK := Aside0.mk (mod_bd (q := a2) hc1)
    have HH := Aside0.mk (mod_bd (q := a3) hu1)
    generalize a2 % (a0.ca.length : Int) = ck at *
    generalize a3 % (a0.su.length : Int) = ch at *
    have HAT := Aside0.mk (at_pair HP.out.1 HP.out.2.1 HK.out HH.out)
    have HBT := Aside0.mk (at_pair HP.out.2.1 HP.out.1 HK.out HH.out)
    have HQ := Aside0.mk (ask_mk HAT.out HP.out.2.2)
    have HQ2 := Aside0.mk (ask_mk HBT.out HP.out.2.2.symm)
    have HM := Aside0.mk (ask_mk (at_pair HP.out.1 HP.out.2.1 ⟨Int.le_refl 0, by have := hc1; omega⟩ HH.out) HP.out.2.2)
    have HM2 := Aside0.mk (ask_mk (at_pair HP.out.2.1 HP.out.1 ⟨Int.le_refl 0, by have := hc1; omega⟩ HH.out) HP.out.2.2.symm)
    go_wp2_with fail
    refine (lland_c a0 _ (HI.out.below HB.out) HF.out).mono ?_
    rintro e w5_ ⟨L, rfl, hO, hL, hb_⟩
    replace HB := Aside0.mk (bt HB.out hb_)
    replace HBX := Aside0.mk (blk_below HBX.out hb_)
    clear d0 d1 d2 d3
    clear hb_
    have d0 := (blk_cell HBX.out 0).trans rfl
    have d1 := (blk_cell HBX.out 1).trans rfl
    have d2 := (blk_cell HBX.out 2).trans rfl
    have d3 := (blk_cell HBX.out 3).trans rfl
    have HO := Aside0.mk hO
    have HL := Aside0.mk hL
    clear hO hL
    go_wp2_with fail
    refine (of_walls HO.out HL.out pa pb ck ch).mono ?_
    rintro e w6_ ⟨Ax1, cx1, Ay1, cy1, rfl, hX, hY, hb_⟩
    replace HB := Aside0.mk (bt HB.out hb_)
    replace HBX := Aside0.mk (blk_below HBX.out hb_)
    clear d0 d1 d2 d3
    clear hb_
    have d0 := (blk_cell HBX.out 0).trans rfl
    have d1 := (blk_cell HBX.out 1).trans rfl
    have d2 := (blk_cell HBX.out 2).trans rfl
    have d3 := (blk_cell HBX.out 3).trans rfl
    have HE1 := Aside0.mk (walls_ok HC.out HQ.out)
    rw [HE1.out] at hX hY
    rw [HE1.out]
    have HX1 := Aside0.mk hX
    have HY1 := Aside0.mk hY
    clear hX hY HO HL HE1
    go_wp2_with fail
    refine (lland_c a0 _ (HI.out.below HB.out) HF.out).mono ?_
    rintro e w7_ ⟨L, rfl, hO, hL, hb_⟩
    replace HB := Aside0.mk (bt HB.out hb_)
    replace HBX := Aside0.mk (blk_below HBX.out hb_)
    replace HX1 := Aside0.mk (Kd.C_below HX1.out hb_)
    replace HY1 := Aside0.mk (Kd.C_below HY1.out hb_)
    clear d0 d1 d2 d3
    clear hb_
    have d0 := (blk_cell HBX.out 0).trans rfl
    have d1 := (blk_cell HBX.out 1).trans rfl
    have d2 := (blk_cell HBX.out 2).trans rfl
    have d3 := (blk_cell HBX.out 3).trans rfl
    have HO := Aside0.mk hO
    have HL := Aside0.mk hL
    clear hO hL
    go_wp2_with fail
    refine (of_walls HO.out HL.out pb pa ck ch).mono ?_
    rintro e w8_ ⟨Ax2, cx2, Ay2, cy2, rfl, hX, hY, hb_⟩
    replace HB := Aside0.mk (bt HB.out hb_)
    replace HBX := Aside0.mk (blk_below HBX.out hb_)
    replace HX1 := Aside0.mk (Kd.C_below HX1.out hb_)
    replace HY1 := Aside0.mk (Kd.C_below HY1.out hb_)
    clear d0 d1 d2 d3
    clear hb_
    have d0 := (blk_cell HBX.out 0).trans rfl
    have d1 := (blk_cell HBX.out 1).trans rfl
    have d2 := (blk_cell HBX.out 2).trans rfl
    have d3 := (blk_cell HBX.out 3).trans rfl
    have HE2 := Aside0.mk (walls_ok HC.out HQ2.out)
    rw [HE2.out] at hX hY
    rw [HE2.out]
    have HSY := Aside0.mk (And.intro (ridges_sym a0.lv pb pa) (clouds_sym a0.lv pb pa ck ch))
    rw [HSY.out.1] at hX
    rw [HSY.out.2] at hY
    rw [HSY.out.1, HSY.out.2]
    have HX2 := Aside0.mk hX
    have HY2 := Aside0.mk hY
    clear hX hY HO HL HE2
    go_wp2_with fail
    refine (lland_c a0 _ (HI.out.below HB.out) HF.out).mono ?_
    rintro e w9_ ⟨L, rfl, hO, hL, hb_⟩
    replace HB := Aside0.mk (bt HB.out hb_)
    replace HBX := Aside0.mk (blk_below HBX.out hb_)
    replace HX1 := Aside0.mk (Kd.C_below HX1.out hb_)
    replace HY1 := Aside0.mk (Kd.C_below HY1.out hb_)
    replace HX2 := Aside0.mk (Kd.C_below HX2.out hb_)
    replace HY2 := Aside0.mk (Kd.C_below HY2.out hb_)
    clear d0 d1 d2 d3
    clear hb_
    have d0 := (blk_cell HBX.out 0).trans rfl
    have d1 := (blk_cell HBX.out 1).trans rfl
    have d2 := (blk_cell HBX.out 2).trans rfl
    have d3 := (blk_cell HBX.out 3).trans rfl
    have HO := Aside0.mk hO
    have HL := Aside0.mk hL
    clear hO hL
    go_wp2_with fail
    refine (of_mir HO.out HL.out pa pb ch).mono ?_
    rintro e w10_ ⟨rfl, hb_⟩
    replace HB := Aside0.mk (bt HB.out hb_)
    replace HBX := Aside0.mk (blk_below HBX.out hb_)
    replace HX1 := Aside0.mk (Kd.C_below HX1.out hb_)
    replace HY1 := Aside0.mk (Kd.C_below HY1.out hb_)
    replace HX2 := Aside0.mk (Kd.C_below HX2.out hb_)
    replace HY2 := Aside0.mk (Kd.C_below HY2.out hb_)
    clear d0 d1 d2 d3
    clear hb_
    have d0 := (blk_cell HBX.out 0).trans rfl
    have d1 := (blk_cell HBX.out 1).trans rfl
    have d2 := (blk_cell HBX.out 2).trans rfl
    have d3 := (blk_cell HBX.out 3).trans rfl
    clear HO HL
    go_wp2_with fail
    refine (lland_c a0 _ (HI.out.below HB.out) HF.out).mono ?_
    rintro e w11_ ⟨L, rfl, hO, hL, hb_⟩
    replace HB := Aside0.mk (bt HB.out hb_)
    replace HBX := Aside0.mk (blk_below HBX.out hb_)
    replace HX1 := Aside0.mk (Kd.C_below HX1.out hb_)
    replace HY1 := Aside0.mk (Kd.C_below HY1.out hb_)
    replace HX2 := Aside0.mk (Kd.C_below HX2.out hb_)
    replace HY2 := Aside0.mk (Kd.C_below HY2.out hb_)
    clear d0 d1 d2 d3
    clear hb_
    have d0 := (blk_cell HBX.out 0).trans rfl
    have d1 := (blk_cell HBX.out 1).trans rfl
    have d2 := (blk_cell HBX.out 2).trans rfl
    have d3 := (blk_cell HBX.out 3).trans rfl
    have HO := Aside0.mk hO
    have HL := Aside0.mk hL
    clear hO hL
    go_wp2_with fail
    refine (of_mir HO.out HL.out pb pa ch).mono ?_
    rintro e w12_ ⟨rfl, hb_⟩
    replace HB := Aside0.mk (bt HB.out hb_)
    replace HBX := Aside0.mk (blk_below HBX.out hb_)
    replace HX1 := Aside0.mk (Kd.C_below HX1.out hb_)
    replace HY1 := Aside0.mk (Kd.C_below HY1.out hb_)
    replace HX2 := Aside0.mk (Kd.C_below HX2.out hb_)
    replace HY2 := Aside0.mk (Kd.C_below HY2.out hb_)
    clear d0 d1 d2 d3
    clear hb_
    have d0 := (blk_cell HBX.out 0).trans rfl
    have d1 := (blk_cell HBX.out 1).trans rfl
    have d2 := (blk_cell HBX.out 2).trans rfl
    have d3 := (blk_cell HBX.out 3).trans rfl
    clear HO HL
    go_wp2_with fail
    refine (lland_c a0 _ (HI.out.below HB.out) HF.out).mono ?_
    rintro e w13_ ⟨L, rfl, hO, hL, hb_⟩
    replace HB := Aside0.mk (bt HB.out hb_)
    replace HBX := Aside0.mk (blk_below HBX.out hb_)
    replace HX1 := Aside0.mk (Kd.C_below HX1.out hb_)
    replace HY1 := Aside0.mk (Kd.C_below HY1.out hb_)
    replace HX2 := Aside0.mk (Kd.C_below HX2.out hb_)
    replace HY2 := Aside0.mk (Kd.C_below HY2.out hb_)
    clear d0 d1 d2 d3
    clear hb_
    have d0 := (blk_cell HBX.out 0).trans rfl
    have d1 := (blk_cell HBX.out 1).trans rfl
    have d2 := (blk_cell HBX.out 2).trans rfl
    have d3 := (blk_cell HBX.out 3).trans rfl
    have HO := Aside0.mk hO
    have HL := Aside0.mk hL
    clear hO hL
    go_wp2_with fail
    refine (of_why HO.out HL.out pa pb ck ch).mono ?_
    rintro e w14_ ⟨rfl, hb_⟩
    replace HB := Aside0.mk (bt HB.out hb_)
    replace HBX := Aside0.mk (blk_below HBX.out hb_)
    replace HX1 := Aside0.mk (Kd.C_below HX1.out hb_)
    replace HY1 := Aside0.mk (Kd.C_below HY1.out hb_)
    replace HX2 := Aside0.mk (Kd.C_below HX2.out hb_)
    replace HY2 := Aside0.mk (Kd.C_below HY2.out hb_)
    clear d0 d1 d2 d3
    clear hb_
    have d0 := (blk_cell HBX.out 0).trans rfl
    have d1 := (blk_cell HBX.out 1).trans rfl
    have d2 := (blk_cell HBX.out 2).trans rfl
    have d3 := (blk_cell HBX.out 3).trans rfl
    have HWE := Aside0.mk (why_ok HC.out HQ.out)
    rw [HWE.out]
    clear HO HL HWE
    obtain ⟨ae, e3, z0, z1, z2⟩ := at_T50 (Kd.C_below HI.out.r3 HB.out) ch HH.out.1 HH.out.2
    obtain ⟨ad, e0, x0, x1, x2, x3⟩ := at_T65 (Kd.C_below HI.out.r0 HB.out) pa HP.out.1.1 HP.out.1.2
    clear z0 z1 x0 x1 x2
    have HUP : Aside0 ((rd_T99 a0.lv.su ch).f2 = (rd_T50 a0.su ch).f2) := ⟨by rw [lv_su]; rfl⟩
    have HMI : Aside0 ((rd_T85 a0.lv.st pa).f3 = (rd_T65 a0.st pa).f3) := ⟨by rw [lv_st]; rfl⟩
    have hmi := Lv.mir_of HC.out pa HAT.out.f0 HAT.out.f1
    rw [HMI.out] at hmi
    have hh0 := HH.out.1
    have hh1 := HH.out.2
    have hp0 := HP.out.1.1
    have hp1 := HP.out.1.2
    have ZC := Aside0.mk z2
    have XC := Aside0.mk x3
    clear z2 x3
    have E3 := Aside0.mk e3
    have E0 := Aside0.mk e0
    clear e0 e3
    have HDAY : Aside0 (¬ (rd_T99 a0.lv.su ch).f2 ≤ 0 → ¬ (rd_T85 a0.lv.st pa).f3 < mirrorsF (rd_T85 a0.lv.st pa) (rd_T85 a0.lv.st pb) (rd_T99 a0.lv.su ch) → whyF a0.lv pa pb ck ch = if 0 < (ridgesL a0.lv pa pb).length then (3, (ridgesL a0.lv pa pb).headD 0) else if 0 < (cloudsL a0.lv pa pb ck ch).length then (4, (cloudsL a0.lv pa pb ck ch).headD 0) else (0, 0)) := ⟨fun h1 h2 => why_day h1 h2⟩
    generalize ridgesL a0.lv pa pb = xs at *
    generalize cloudsL a0.lv pa pb ck ch = ys at *
    by_cases hu : (rd_T50 a0.su ch).f2 ≤ 0
    · have HWN := Aside0.mk (why_night (f := pa) (t := pb) (k := ck) (L := a0.lv) (h := ch) (by rw [HUP.out]; exact hu))
      have E1 := Aside0.mk (mir_night HC.out HM.out (by rw [HUP.out]; exact hu))
      have E2 := Aside0.mk (mir_night HC.out HM2.out (by rw [HUP.out]; exact hu))
      rw [E1.out, E2.out, HWN.out]
      clear E1 E2 HWN
      have tx : (xs == xs) = true := by simp
      have ty : (ys == ys) = true := by simp
      have lx := HX1.out.2.1
      have ly := HY1.out.2.1
      go_wp2_with fail
      refine (ints_c Ax1 Ax2 cx1 cx2 xs xs _ HX1.out HX2.out).mono ?_
      rintro e w15_ ⟨rfl, hb_⟩
      replace ZC := Aside0.mk (cb hb_ ZC.out)
      replace XC := Aside0.mk (cb hb_ XC.out)
      replace HB := Aside0.mk (bt HB.out hb_)
      replace HBX := Aside0.mk (blk_below HBX.out hb_)
      replace HX1 := Aside0.mk (Kd.C_below HX1.out hb_)
      replace HY1 := Aside0.mk (Kd.C_below HY1.out hb_)
      replace HX2 := Aside0.mk (Kd.C_below HX2.out hb_)
      replace HY2 := Aside0.mk (Kd.C_below HY2.out hb_)
      clear d0 d1 d2 d3
      clear hb_
      rw [tx]
      have d0 := (blk_cell HBX.out 0).trans rfl
      have d1 := (blk_cell HBX.out 1).trans rfl
      have d2 := (blk_cell HBX.out 2).trans rfl
      have d3 := (blk_cell HBX.out 3).trans rfl
      go_wp2_with fail
      refine (ints_c Ay1 Ay2 cy1 cy2 ys ys _ HY1.out HY2.out).mono ?_
      rintro e w16_ ⟨rfl, hb_⟩
      replace ZC := Aside0.mk (cb hb_ ZC.out)
      replace XC := Aside0.mk (cb hb_ XC.out)
      replace HB := Aside0.mk (bt HB.out hb_)
      replace HBX := Aside0.mk (blk_below HBX.out hb_)
      replace HX1 := Aside0.mk (Kd.C_below HX1.out hb_)
      replace HY1 := Aside0.mk (Kd.C_below HY1.out hb_)
      replace HX2 := Aside0.mk (Kd.C_below HX2.out hb_)
      replace HY2 := Aside0.mk (Kd.C_below HY2.out hb_)
      clear d0 d1 d2 d3
      clear hb_
      rw [ty]
      have d0 := (blk_cell HBX.out 0).trans rfl
      have d1 := (blk_cell HBX.out 1).trans rfl
      have d2 := (blk_cell HBX.out 2).trans rfl
      have d3 := (blk_cell HBX.out 3).trans rfl
      rw [E0.out] at d0
      rw [E3.out] at d3
      have z2 := ZC.out
      have x3 := XC.out
      go_wp2_with fail
      refine (awake_c _).mono ?_
      rintro e w17_ ⟨rfl, hb_⟩
      replace HB := Aside0.mk (bt HB.out hb_)
      replace HBX := Aside0.mk (blk_below HBX.out hb_)
      replace HX1 := Aside0.mk (Kd.C_below HX1.out hb_)
      replace HY1 := Aside0.mk (Kd.C_below HY1.out hb_)
      replace HX2 := Aside0.mk (Kd.C_below HX2.out hb_)
      replace HY2 := Aside0.mk (Kd.C_below HY2.out hb_)
      clear d0 d1 d2 d3
      clear hb_
      go_wp2_with fail
      go_ret
      exact ⟨ret_bool rfl, HB.out⟩
    have HUN : Aside0 (¬ (rd_T99 a0.lv.su ch).f2 ≤ 0) := ⟨by rw [HUP.out]; exact hu⟩
    have E1 := Aside0.mk (mir_okF HC.out HM.out HUN.out)
    have E2 := Aside0.mk (mir_okF HC.out HM2.out HUN.out)
    rw [E1.out, E2.out]
    clear E1 E2
    have HTWO := Aside0.mk (mirrors_two (rd_T85 a0.lv.st pa) (rd_T85 a0.lv.st pb) (rd_T99 a0.lv.su ch))
    have WB : Aside0 ((rd_T65 a0.st pa).f3 < mirrorsF (rd_T85 a0.lv.st pa) (rd_T85 a0.lv.st pb) (rd_T99 a0.lv.su ch) → whyF a0.lv pa pb ck ch = (2, 0)) := ⟨fun h => why_behind HUN.out (by rw [HMI.out]; exact h)⟩
    have WD : Aside0 (¬ (rd_T65 a0.st pa).f3 < mirrorsF (rd_T85 a0.lv.st pa) (rd_T85 a0.lv.st pb) (rd_T99 a0.lv.su ch) → whyF a0.lv pa pb ck ch = if 0 < xs.length then (3, xs.headD 0) else if 0 < ys.length then (4, ys.headD 0) else (0, 0)) := ⟨fun h => HDAY.out HUN.out (by rw [HMI.out]; exact h)⟩
    generalize mirrorsF (rd_T85 a0.lv.st pa) (rd_T85 a0.lv.st pb) (rd_T99 a0.lv.su ch) = m at *
    generalize mirrorsF (rd_T85 a0.lv.st pb) (rd_T85 a0.lv.st pa) (rd_T99 a0.lv.su ch) = n at *
    obtain ⟨m1, m2, m3⟩ := HTWO.out
    have hways : (m = 2 ∧ n = 1 ∧ (rd_T65 a0.st pa).f3 = 1) ∨ ((m = 2 ∧ n = 1 ∧ (rd_T65 a0.st pa).f3 = 2) ∨ (m = 1 ∧ n = 1 ∧ 1 ≤ (rd_T65 a0.st pa).f3) ∨ (m = 1 ∧ n = 2 ∧ 1 ≤ (rd_T65 a0.st pa).f3)) := by omega
    clear m1 m2 m3 HTWO
    rcases hways with ⟨rfl, rfl, hf⟩ | hways
    · have hff := hf
      have HWN := Aside0.mk (WB.out (by omega))
      rw [HWN.out]
      clear HWN WB WD
      rw [hf] at XC
      clear hf hmi
      have tx : (xs == xs) = true := by simp
      have ty : (ys == ys) = true := by simp
      have lx := HX1.out.2.1
      have ly := HY1.out.2.1
      go_wp2_with fail
      refine (ints_c Ax1 Ax2 cx1 cx2 xs xs _ HX1.out HX2.out).mono ?_
      rintro e w18_ ⟨rfl, hb_⟩
      replace ZC := Aside0.mk (cb hb_ ZC.out)
      replace XC := Aside0.mk (cb hb_ XC.out)
      replace HB := Aside0.mk (bt HB.out hb_)
      replace HBX := Aside0.mk (blk_below HBX.out hb_)
      replace HX1 := Aside0.mk (Kd.C_below HX1.out hb_)
      replace HY1 := Aside0.mk (Kd.C_below HY1.out hb_)
      replace HX2 := Aside0.mk (Kd.C_below HX2.out hb_)
      replace HY2 := Aside0.mk (Kd.C_below HY2.out hb_)
      clear d0 d1 d2 d3
      clear hb_
      rw [tx]
      have d0 := (blk_cell HBX.out 0).trans rfl
      have d1 := (blk_cell HBX.out 1).trans rfl
      have d2 := (blk_cell HBX.out 2).trans rfl
      have d3 := (blk_cell HBX.out 3).trans rfl
      go_wp2_with fail
      refine (ints_c Ay1 Ay2 cy1 cy2 ys ys _ HY1.out HY2.out).mono ?_
      rintro e w19_ ⟨rfl, hb_⟩
      replace ZC := Aside0.mk (cb hb_ ZC.out)
      replace XC := Aside0.mk (cb hb_ XC.out)
      replace HB := Aside0.mk (bt HB.out hb_)
      replace HBX := Aside0.mk (blk_below HBX.out hb_)
      replace HX1 := Aside0.mk (Kd.C_below HX1.out hb_)
      replace HY1 := Aside0.mk (Kd.C_below HY1.out hb_)
      replace HX2 := Aside0.mk (Kd.C_below HX2.out hb_)
      replace HY2 := Aside0.mk (Kd.C_below HY2.out hb_)
      clear d0 d1 d2 d3
      clear hb_
      rw [ty]
      have d0 := (blk_cell HBX.out 0).trans rfl
      have d1 := (blk_cell HBX.out 1).trans rfl
      have d2 := (blk_cell HBX.out 2).trans rfl
      have d3 := (blk_cell HBX.out 3).trans rfl
      rw [E0.out] at d0
      rw [E3.out] at d3
      have z2 := ZC.out
      have x3 := XC.out
      go_wp2_with fail
      refine (awake_c _).mono ?_
      rintro e w20_ ⟨rfl, hb_⟩
      replace HB := Aside0.mk (bt HB.out hb_)
      replace HBX := Aside0.mk (blk_below HBX.out hb_)
      replace HX1 := Aside0.mk (Kd.C_below HX1.out hb_)
      replace HY1 := Aside0.mk (Kd.C_below HY1.out hb_)
      replace HX2 := Aside0.mk (Kd.C_below HX2.out hb_)
      replace HY2 := Aside0.mk (Kd.C_below HY2.out hb_)
      clear d0 d1 d2 d3
      clear hb_
      go_wp2_with fail
      go_ret
      exact ⟨ret_bool rfl, HB.out⟩
    have HWN := Aside0.mk (WD.out (by rcases hways with ⟨_, _, _⟩ | ⟨_, _, _⟩ | ⟨_, _, _⟩ <;> omega))
    clear WB WD
    rcases hways with ⟨rfl, rfl, hf⟩ | ⟨rfl, rfl, hf⟩ | ⟨rfl, rfl, hf⟩
    · rw [HWN.out]
      rw [hf] at XC
      clear hf hmi
      by_cases hx : 0 < xs.length
      · rw [if_pos hx]
        obtain ⟨aq, eq, g0⟩ := Kd.at_int HX1.out 0 (by omega) (by omega)
        subst eq
        have HG := Aside0.mk g0
        clear g0
        have HH0 : Aside0 (xs.headD 0 = rd xs 0) := ⟨by cases xs <;> rfl⟩
        rw [HH0.out]
        have hx' : (0 : Int) < xs.length := by omega
        have tx : (xs == xs) = true := by simp
        have ty : (ys == ys) = true := by simp
        have lx := HX1.out.2.1
        have ly := HY1.out.2.1
        go_wp2_with fail
        refine (ints_c (some aq) Ax2 cx1 cx2 xs xs _ HX1.out HX2.out).mono ?_
        rintro e w21_ ⟨rfl, hb_⟩
        replace ZC := Aside0.mk (cb hb_ ZC.out)
        replace XC := Aside0.mk (cb hb_ XC.out)
        replace HG := Aside0.mk (cb hb_ HG.out)
        replace HB := Aside0.mk (bt HB.out hb_)
        replace HBX := Aside0.mk (blk_below HBX.out hb_)
        replace HX1 := Aside0.mk (Kd.C_below HX1.out hb_)
        replace HY1 := Aside0.mk (Kd.C_below HY1.out hb_)
        replace HX2 := Aside0.mk (Kd.C_below HX2.out hb_)
        replace HY2 := Aside0.mk (Kd.C_below HY2.out hb_)
        clear d0 d1 d2 d3
        clear hb_
        rw [tx]
        have d0 := (blk_cell HBX.out 0).trans rfl
        have d1 := (blk_cell HBX.out 1).trans rfl
        have d2 := (blk_cell HBX.out 2).trans rfl
        have d3 := (blk_cell HBX.out 3).trans rfl
        go_wp2_with fail
        refine (ints_c Ay1 Ay2 cy1 cy2 ys ys _ HY1.out HY2.out).mono ?_
        rintro e w22_ ⟨rfl, hb_⟩
        replace ZC := Aside0.mk (cb hb_ ZC.out)
        replace XC := Aside0.mk (cb hb_ XC.out)
        replace HG := Aside0.mk (cb hb_ HG.out)
        replace HB := Aside0.mk (bt HB.out hb_)
        replace HBX := Aside0.mk (blk_below HBX.out hb_)
        replace HX1 := Aside0.mk (Kd.C_below HX1.out hb_)
        replace HY1 := Aside0.mk (Kd.C_below HY1.out hb_)
        replace HX2 := Aside0.mk (Kd.C_below HX2.out hb_)
        replace HY2 := Aside0.mk (Kd.C_below HY2.out hb_)
        clear d0 d1 d2 d3
        clear hb_
        rw [ty]
        have d0 := (blk_cell HBX.out 0).trans rfl
        have d1 := (blk_cell HBX.out 1).trans rfl
        have d2 := (blk_cell HBX.out 2).trans rfl
        have d3 := (blk_cell HBX.out 3).trans rfl
        rw [E0.out] at d0
        rw [E3.out] at d3
        have z2 := ZC.out
        have x3 := XC.out
        have g0 : w22_.cell? aq = some (.int .i64 (rd xs 0)) := HG.out
        go_wp2_with fail
        refine (awake_c _).mono ?_
        rintro e w23_ ⟨rfl, hb_⟩
        replace HB := Aside0.mk (bt HB.out hb_)
        replace HBX := Aside0.mk (blk_below HBX.out hb_)
        replace HX1 := Aside0.mk (Kd.C_below HX1.out hb_)
        replace HY1 := Aside0.mk (Kd.C_below HY1.out hb_)
        replace HX2 := Aside0.mk (Kd.C_below HX2.out hb_)
        replace HY2 := Aside0.mk (Kd.C_below HY2.out hb_)
        clear d0 d1 d2 d3
        clear hb_
        go_wp2_with fail
        go_ret
        exact ⟨ret_bool rfl, HB.out⟩
      rw [if_neg hx]
      have zx : xs.length = 0 := by omega
      by_cases hy : 0 < ys.length
      · rw [if_pos hy]
        obtain ⟨aq, eq, g0⟩ := Kd.at_int HY1.out 0 (by omega) (by omega)
        subst eq
        have HG := Aside0.mk g0
        clear g0
        have HH0 : Aside0 (ys.headD 0 = rd ys 0) := ⟨by cases ys <;> rfl⟩
        rw [HH0.out]
        have hy' : (0 : Int) < ys.length := by omega
        obtain rfl : xs = [] := List.eq_nil_of_length_eq_zero zx
        clear zx hx
        have tx : (([] : List Int) == []) = true := rfl
        have ty : (ys == ys) = true := by simp
        have ly := HY1.out.2.1
        go_wp2_with fail
        refine (ints_c Ax1 Ax2 cx1 cx2 [] [] _ HX1.out HX2.out).mono ?_
        rintro e w24_ ⟨rfl, hb_⟩
        replace ZC := Aside0.mk (cb hb_ ZC.out)
        replace XC := Aside0.mk (cb hb_ XC.out)
        replace HG := Aside0.mk (cb hb_ HG.out)
        replace HB := Aside0.mk (bt HB.out hb_)
        replace HBX := Aside0.mk (blk_below HBX.out hb_)
        replace HX1 := Aside0.mk (Kd.C_below HX1.out hb_)
        replace HY1 := Aside0.mk (Kd.C_below HY1.out hb_)
        replace HX2 := Aside0.mk (Kd.C_below HX2.out hb_)
        replace HY2 := Aside0.mk (Kd.C_below HY2.out hb_)
        clear d0 d1 d2 d3
        clear hb_
        rw [tx]
        have d0 := (blk_cell HBX.out 0).trans rfl
        have d1 := (blk_cell HBX.out 1).trans rfl
        have d2 := (blk_cell HBX.out 2).trans rfl
        have d3 := (blk_cell HBX.out 3).trans rfl
        go_wp2_with fail
        refine (ints_c (some aq) Ay2 cy1 cy2 ys ys _ HY1.out HY2.out).mono ?_
        rintro e w25_ ⟨rfl, hb_⟩
        replace ZC := Aside0.mk (cb hb_ ZC.out)
        replace XC := Aside0.mk (cb hb_ XC.out)
        replace HG := Aside0.mk (cb hb_ HG.out)
        replace HB := Aside0.mk (bt HB.out hb_)
        replace HBX := Aside0.mk (blk_below HBX.out hb_)
        replace HX1 := Aside0.mk (Kd.C_below HX1.out hb_)
        replace HY1 := Aside0.mk (Kd.C_below HY1.out hb_)
        replace HX2 := Aside0.mk (Kd.C_below HX2.out hb_)
        replace HY2 := Aside0.mk (Kd.C_below HY2.out hb_)
        clear d0 d1 d2 d3
        clear hb_
        rw [ty]
        have d0 := (blk_cell HBX.out 0).trans rfl
        have d1 := (blk_cell HBX.out 1).trans rfl
        have d2 := (blk_cell HBX.out 2).trans rfl
        have d3 := (blk_cell HBX.out 3).trans rfl
        rw [E0.out] at d0
        rw [E3.out] at d3
        have z2 := ZC.out
        have x3 := XC.out
        have g0 : w25_.cell? aq = some (.int .i64 (rd ys 0)) := HG.out
        go_wp2_with fail
        refine (awake_c _).mono ?_
        rintro e w26_ ⟨rfl, hb_⟩
        replace HB := Aside0.mk (bt HB.out hb_)
        replace HBX := Aside0.mk (blk_below HBX.out hb_)
        replace HX1 := Aside0.mk (Kd.C_below HX1.out hb_)
        replace HY1 := Aside0.mk (Kd.C_below HY1.out hb_)
        replace HX2 := Aside0.mk (Kd.C_below HX2.out hb_)
        replace HY2 := Aside0.mk (Kd.C_below HY2.out hb_)
        clear d0 d1 d2 d3
        clear hb_
        go_wp2_with fail
        go_ret
        exact ⟨ret_bool rfl, HB.out⟩
      rw [if_neg hy]
      obtain rfl : xs = [] := List.eq_nil_of_length_eq_zero zx
      obtain rfl : ys = [] := List.eq_nil_of_length_eq_zero (by omega)
      clear zx hx hy
      have tx : (([] : List Int) == []) = true := rfl
      go_wp2_with fail
      refine (ints_c Ax1 Ax2 cx1 cx2 [] [] _ HX1.out HX2.out).mono ?_
      rintro e w27_ ⟨rfl, hb_⟩
      replace ZC := Aside0.mk (cb hb_ ZC.out)
      replace XC := Aside0.mk (cb hb_ XC.out)
      replace HB := Aside0.mk (bt HB.out hb_)
      replace HBX := Aside0.mk (blk_below HBX.out hb_)
      replace HX1 := Aside0.mk (Kd.C_below HX1.out hb_)
      replace HY1 := Aside0.mk (Kd.C_below HY1.out hb_)
      replace HX2 := Aside0.mk (Kd.C_below HX2.out hb_)
      replace HY2 := Aside0.mk (Kd.C_below HY2.out hb_)
      clear d0 d1 d2 d3
      clear hb_
      rw [tx]
      have d0 := (blk_cell HBX.out 0).trans rfl
      have d1 := (blk_cell HBX.out 1).trans rfl
      have d2 := (blk_cell HBX.out 2).trans rfl
      have d3 := (blk_cell HBX.out 3).trans rfl
      go_wp2_with fail
      refine (ints_c Ay1 Ay2 cy1 cy2 [] [] _ HY1.out HY2.out).mono ?_
      rintro e w28_ ⟨rfl, hb_⟩
      replace ZC := Aside0.mk (cb hb_ ZC.out)
      replace XC := Aside0.mk (cb hb_ XC.out)
      replace HB := Aside0.mk (bt HB.out hb_)
      replace HBX := Aside0.mk (blk_below HBX.out hb_)
      replace HX1 := Aside0.mk (Kd.C_below HX1.out hb_)
      replace HY1 := Aside0.mk (Kd.C_below HY1.out hb_)
      replace HX2 := Aside0.mk (Kd.C_below HX2.out hb_)
      replace HY2 := Aside0.mk (Kd.C_below HY2.out hb_)
      clear d0 d1 d2 d3
      clear hb_
      rw [tx]
      have d0 := (blk_cell HBX.out 0).trans rfl
      have d1 := (blk_cell HBX.out 1).trans rfl
      have d2 := (blk_cell HBX.out 2).trans rfl
      have d3 := (blk_cell HBX.out 3).trans rfl
      rw [E0.out] at d0
      rw [E3.out] at d3
      have z2 := ZC.out
      have x3 := XC.out
      go_wp2_with fail
      refine (awake_c _).mono ?_
      rintro e w29_ ⟨rfl, hb_⟩
      replace HB := Aside0.mk (bt HB.out hb_)
      replace HBX := Aside0.mk (blk_below HBX.out hb_)
      replace HX1 := Aside0.mk (Kd.C_below HX1.out hb_)
      replace HY1 := Aside0.mk (Kd.C_below HY1.out hb_)
      replace HX2 := Aside0.mk (Kd.C_below HX2.out hb_)
      replace HY2 := Aside0.mk (Kd.C_below HY2.out hb_)
      clear d0 d1 d2 d3
      clear hb_
      go_wp2_with fail
      go_ret
      exact ⟨ret_bool rfl, HB.out⟩
    · rw [HWN.out]
      by_cases hx : 0 < xs.length
      · rw [if_pos hx]
        obtain ⟨aq, eq, g0⟩ := Kd.at_int HX1.out 0 (by omega) (by omega)
        subst eq
        have HG := Aside0.mk g0
        clear g0
        have HH0 : Aside0 (xs.headD 0 = rd xs 0) := ⟨by cases xs <;> rfl⟩
        rw [HH0.out]
        have hx' : (0 : Int) < xs.length := by omega
        have tx : (xs == xs) = true := by simp
        have ty : (ys == ys) = true := by simp
        have lx := HX1.out.2.1
        have ly := HY1.out.2.1
        go_wp2_with fail
        refine (ints_c (some aq) Ax2 cx1 cx2 xs xs _ HX1.out HX2.out).mono ?_
        rintro e w30_ ⟨rfl, hb_⟩
        replace ZC := Aside0.mk (cb hb_ ZC.out)
        replace XC := Aside0.mk (cb hb_ XC.out)
        replace HG := Aside0.mk (cb hb_ HG.out)
        replace HB := Aside0.mk (bt HB.out hb_)
        replace HBX := Aside0.mk (blk_below HBX.out hb_)
        replace HX1 := Aside0.mk (Kd.C_below HX1.out hb_)
        replace HY1 := Aside0.mk (Kd.C_below HY1.out hb_)
        replace HX2 := Aside0.mk (Kd.C_below HX2.out hb_)
        replace HY2 := Aside0.mk (Kd.C_below HY2.out hb_)
        clear d0 d1 d2 d3
        clear hb_
        rw [tx]
        have d0 := (blk_cell HBX.out 0).trans rfl
        have d1 := (blk_cell HBX.out 1).trans rfl
        have d2 := (blk_cell HBX.out 2).trans rfl
        have d3 := (blk_cell HBX.out 3).trans rfl
        go_wp2_with fail
        refine (ints_c Ay1 Ay2 cy1 cy2 ys ys _ HY1.out HY2.out).mono ?_
        rintro e w31_ ⟨rfl, hb_⟩
        replace ZC := Aside0.mk (cb hb_ ZC.out)
        replace XC := Aside0.mk (cb hb_ XC.out)
        replace HG := Aside0.mk (cb hb_ HG.out)
        replace HB := Aside0.mk (bt HB.out hb_)
        replace HBX := Aside0.mk (blk_below HBX.out hb_)
        replace HX1 := Aside0.mk (Kd.C_below HX1.out hb_)
        replace HY1 := Aside0.mk (Kd.C_below HY1.out hb_)
        replace HX2 := Aside0.mk (Kd.C_below HX2.out hb_)
        replace HY2 := Aside0.mk (Kd.C_below HY2.out hb_)
        clear d0 d1 d2 d3
        clear hb_
        rw [ty]
        have d0 := (blk_cell HBX.out 0).trans rfl
        have d1 := (blk_cell HBX.out 1).trans rfl
        have d2 := (blk_cell HBX.out 2).trans rfl
        have d3 := (blk_cell HBX.out 3).trans rfl
        rw [E0.out] at d0
        rw [E3.out] at d3
        have z2 := ZC.out
        have x3 := XC.out
        have g0 : w31_.cell? aq = some (.int .i64 (rd xs 0)) := HG.out
        go_wp2_with fail
        refine (awake_c _).mono ?_
        rintro e w32_ ⟨rfl, hb_⟩
        replace HB := Aside0.mk (bt HB.out hb_)
        replace HBX := Aside0.mk (blk_below HBX.out hb_)
        replace HX1 := Aside0.mk (Kd.C_below HX1.out hb_)
        replace HY1 := Aside0.mk (Kd.C_below HY1.out hb_)
        replace HX2 := Aside0.mk (Kd.C_below HX2.out hb_)
        replace HY2 := Aside0.mk (Kd.C_below HY2.out hb_)
        clear d0 d1 d2 d3
        clear hb_
        go_wp2_with fail
        go_ret
        exact ⟨ret_bool rfl, HB.out⟩
      rw [if_neg hx]
      have zx : xs.length = 0 := by omega
      by_cases hy : 0 < ys.length
      · rw [if_pos hy]
        obtain ⟨aq, eq, g0⟩ := Kd.at_int HY1.out 0 (by omega) (by omega)
        subst eq
        have HG := Aside0.mk g0
        clear g0
        have HH0 : Aside0 (ys.headD 0 = rd ys 0) := ⟨by cases ys <;> rfl⟩
        rw [HH0.out]
        have hy' : (0 : Int) < ys.length := by omega
        obtain rfl : xs = [] := List.eq_nil_of_length_eq_zero zx
        clear zx hx
        have tx : (([] : List Int) == []) = true := rfl
        have ty : (ys == ys) = true := by simp
        have ly := HY1.out.2.1
        go_wp2_with fail
        refine (ints_c Ax1 Ax2 cx1 cx2 [] [] _ HX1.out HX2.out).mono ?_
        rintro e w33_ ⟨rfl, hb_⟩
        replace ZC := Aside0.mk (cb hb_ ZC.out)
        replace XC := Aside0.mk (cb hb_ XC.out)
        replace HG := Aside0.mk (cb hb_ HG.out)
        replace HB := Aside0.mk (bt HB.out hb_)
        replace HBX := Aside0.mk (blk_below HBX.out hb_)
        replace HX1 := Aside0.mk (Kd.C_below HX1.out hb_)
        replace HY1 := Aside0.mk (Kd.C_below HY1.out hb_)
        replace HX2 := Aside0.mk (Kd.C_below HX2.out hb_)
        replace HY2 := Aside0.mk (Kd.C_below HY2.out hb_)
        clear d0 d1 d2 d3
        clear hb_
        rw [tx]
        have d0 := (blk_cell HBX.out 0).trans rfl
        have d1 := (blk_cell HBX.out 1).trans rfl
        have d2 := (blk_cell HBX.out 2).trans rfl
        have d3 := (blk_cell HBX.out 3).trans rfl
        go_wp2_with fail
        refine (ints_c (some aq) Ay2 cy1 cy2 ys ys _ HY1.out HY2.out).mono ?_
        rintro e w34_ ⟨rfl, hb_⟩
        replace ZC := Aside0.mk (cb hb_ ZC.out)
        replace XC := Aside0.mk (cb hb_ XC.out)
        replace HG := Aside0.mk (cb hb_ HG.out)
        replace HB := Aside0.mk (bt HB.out hb_)
        replace HBX := Aside0.mk (blk_below HBX.out hb_)
        replace HX1 := Aside0.mk (Kd.C_below HX1.out hb_)
        replace HY1 := Aside0.mk (Kd.C_below HY1.out hb_)
        replace HX2 := Aside0.mk (Kd.C_below HX2.out hb_)
        replace HY2 := Aside0.mk (Kd.C_below HY2.out hb_)
        clear d0 d1 d2 d3
        clear hb_
        rw [ty]
        have d0 := (blk_cell HBX.out 0).trans rfl
        have d1 := (blk_cell HBX.out 1).trans rfl
        have d2 := (blk_cell HBX.out 2).trans rfl
        have d3 := (blk_cell HBX.out 3).trans rfl
        rw [E0.out] at d0
        rw [E3.out] at d3
        have z2 := ZC.out
        have x3 := XC.out
        have g0 : w34_.cell? aq = some (.int .i64 (rd ys 0)) := HG.out
        go_wp2_with fail
        refine (awake_c _).mono ?_
        rintro e w35_ ⟨rfl, hb_⟩
        replace HB := Aside0.mk (bt HB.out hb_)
        replace HBX := Aside0.mk (blk_below HBX.out hb_)
        replace HX1 := Aside0.mk (Kd.C_below HX1.out hb_)
        replace HY1 := Aside0.mk (Kd.C_below HY1.out hb_)
        replace HX2 := Aside0.mk (Kd.C_below HX2.out hb_)
        replace HY2 := Aside0.mk (Kd.C_below HY2.out hb_)
        clear d0 d1 d2 d3
        clear hb_
        go_wp2_with fail
        go_ret
        exact ⟨ret_bool rfl, HB.out⟩
      rw [if_neg hy]
      obtain rfl : xs = [] := List.eq_nil_of_length_eq_zero zx
      obtain rfl : ys = [] := List.eq_nil_of_length_eq_zero (by omega)
      clear zx hx hy
      have tx : (([] : List Int) == []) = true := rfl
      go_wp2_with fail
      refine (ints_c Ax1 Ax2 cx1 cx2 [] [] _ HX1.out HX2.out).mono ?_
      rintro e w36_ ⟨rfl, hb_⟩
      replace ZC := Aside0.mk (cb hb_ ZC.out)
      replace XC := Aside0.mk (cb hb_ XC.out)
      replace HB := Aside0.mk (bt HB.out hb_)
      replace HBX := Aside0.mk (blk_below HBX.out hb_)
      replace HX1 := Aside0.mk (Kd.C_below HX1.out hb_)
      replace HY1 := Aside0.mk (Kd.C_below HY1.out hb_)
      replace HX2 := Aside0.mk (Kd.C_below HX2.out hb_)
      replace HY2 := Aside0.mk (Kd.C_below HY2.out hb_)
      clear d0 d1 d2 d3
      clear hb_
      rw [tx]
      have d0 := (blk_cell HBX.out 0).trans rfl
      have d1 := (blk_cell HBX.out 1).trans rfl
      have d2 := (blk_cell HBX.out 2).trans rfl
      have d3 := (blk_cell HBX.out 3).trans rfl
      go_wp2_with fail
      refine (ints_c Ay1 Ay2 cy1 cy2 [] [] _ HY1.out HY2.out).mono ?_
      rintro e w37_ ⟨rfl, hb_⟩
      replace ZC := Aside0.mk (cb hb_ ZC.out)
      replace XC := Aside0.mk (cb hb_ XC.out)
      replace HB := Aside0.mk (bt HB.out hb_)
      replace HBX := Aside0.mk (blk_below HBX.out hb_)
      replace HX1 := Aside0.mk (Kd.C_below HX1.out hb_)
      replace HY1 := Aside0.mk (Kd.C_below HY1.out hb_)
      replace HX2 := Aside0.mk (Kd.C_below HX2.out hb_)
      replace HY2 := Aside0.mk (Kd.C_below HY2.out hb_)
      clear d0 d1 d2 d3
      clear hb_
      rw [tx]
      have d0 := (blk_cell HBX.out 0).trans rfl
      have d1 := (blk_cell HBX.out 1).trans rfl
      have d2 := (blk_cell HBX.out 2).trans rfl
      have d3 := (blk_cell HBX.out 3).trans rfl
      rw [E0.out] at d0
      rw [E3.out] at d3
      have z2 := ZC.out
      have x3 := XC.out
      go_wp2_with fail
      refine (awake_c _).mono ?_
      rintro e w38_ ⟨rfl, hb_⟩
      replace HB := Aside0.mk (bt HB.out hb_)
      replace HBX := Aside0.mk (blk_below HBX.out hb_)
      replace HX1 := Aside0.mk (Kd.C_below HX1.out hb_)
      replace HY1 := Aside0.mk (Kd.C_below HY1.out hb_)
      replace HX2 := Aside0.mk (Kd.C_below HX2.out hb_)
      replace HY2 := Aside0.mk (Kd.C_below HY2.out hb_)
      clear d0 d1 d2 d3
      clear hb_
      go_wp2_with fail
      go_ret
      exact ⟨ret_bool rfl, HB.out⟩
    · rw [HWN.out]
      by_cases hx : 0 < xs.length
      · rw [if_pos hx]
        obtain ⟨aq, eq, g0⟩ := Kd.at_int HX1.out 0 (by omega) (by omega)
        subst eq
        have HG := Aside0.mk g0
        clear g0
        have HH0 : Aside0 (xs.headD 0 = rd xs 0) := ⟨by cases xs <;> rfl⟩
        rw [HH0.out]
        have hx' : (0 : Int) < xs.length := by omega
        have tx : (xs == xs) = true := by simp
        have ty : (ys == ys) = true := by simp
        have lx := HX1.out.2.1
        have ly := HY1.out.2.1
        go_wp2_with fail
        refine (ints_c (some aq) Ax2 cx1 cx2 xs xs _ HX1.out HX2.out).mono ?_
        rintro e w39_ ⟨rfl, hb_⟩
        replace ZC := Aside0.mk (cb hb_ ZC.out)
        replace XC := Aside0.mk (cb hb_ XC.out)
        replace HG := Aside0.mk (cb hb_ HG.out)
        replace HB := Aside0.mk (bt HB.out hb_)
        replace HBX := Aside0.mk (blk_below HBX.out hb_)
        replace HX1 := Aside0.mk (Kd.C_below HX1.out hb_)
        replace HY1 := Aside0.mk (Kd.C_below HY1.out hb_)
        replace HX2 := Aside0.mk (Kd.C_below HX2.out hb_)
        replace HY2 := Aside0.mk (Kd.C_below HY2.out hb_)
        clear d0 d1 d2 d3
        clear hb_
        rw [tx]
        have d0 := (blk_cell HBX.out 0).trans rfl
        have d1 := (blk_cell HBX.out 1).trans rfl
        have d2 := (blk_cell HBX.out 2).trans rfl
        have d3 := (blk_cell HBX.out 3).trans rfl
        go_wp2_with fail
        refine (ints_c Ay1 Ay2 cy1 cy2 ys ys _ HY1.out HY2.out).mono ?_
        rintro e w40_ ⟨rfl, hb_⟩
        replace ZC := Aside0.mk (cb hb_ ZC.out)
        replace XC := Aside0.mk (cb hb_ XC.out)
        replace HG := Aside0.mk (cb hb_ HG.out)
        replace HB := Aside0.mk (bt HB.out hb_)
        replace HBX := Aside0.mk (blk_below HBX.out hb_)
        replace HX1 := Aside0.mk (Kd.C_below HX1.out hb_)
        replace HY1 := Aside0.mk (Kd.C_below HY1.out hb_)
        replace HX2 := Aside0.mk (Kd.C_below HX2.out hb_)
        replace HY2 := Aside0.mk (Kd.C_below HY2.out hb_)
        clear d0 d1 d2 d3
        clear hb_
        rw [ty]
        have d0 := (blk_cell HBX.out 0).trans rfl
        have d1 := (blk_cell HBX.out 1).trans rfl
        have d2 := (blk_cell HBX.out 2).trans rfl
        have d3 := (blk_cell HBX.out 3).trans rfl
        rw [E0.out] at d0
        rw [E3.out] at d3
        have z2 := ZC.out
        have x3 := XC.out
        have g0 : w40_.cell? aq = some (.int .i64 (rd xs 0)) := HG.out
        go_wp2_with fail
        refine (awake_c _).mono ?_
        rintro e w41_ ⟨rfl, hb_⟩
        replace HB := Aside0.mk (bt HB.out hb_)
        replace HBX := Aside0.mk (blk_below HBX.out hb_)
        replace HX1 := Aside0.mk (Kd.C_below HX1.out hb_)
        replace HY1 := Aside0.mk (Kd.C_below HY1.out hb_)
        replace HX2 := Aside0.mk (Kd.C_below HX2.out hb_)
        replace HY2 := Aside0.mk (Kd.C_below HY2.out hb_)
        clear d0 d1 d2 d3
        clear hb_
        go_wp2_with fail
        go_ret
        exact ⟨ret_bool rfl, HB.out⟩
      rw [if_neg hx]
      have zx : xs.length = 0 := by omega
      by_cases hy : 0 < ys.length
      · rw [if_pos hy]
        obtain ⟨aq, eq, g0⟩ := Kd.at_int HY1.out 0 (by omega) (by omega)
        subst eq
        have HG := Aside0.mk g0
        clear g0
        have HH0 : Aside0 (ys.headD 0 = rd ys 0) := ⟨by cases ys <;> rfl⟩
        rw [HH0.out]
        have hy' : (0 : Int) < ys.length := by omega
        obtain rfl : xs = [] := List.eq_nil_of_length_eq_zero zx
        clear zx hx
        have tx : (([] : List Int) == []) = true := rfl
        have ty : (ys == ys) = true := by simp
        have ly := HY1.out.2.1
        go_wp2_with fail
        refine (ints_c Ax1 Ax2 cx1 cx2 [] [] _ HX1.out HX2.out).mono ?_
        rintro e w42_ ⟨rfl, hb_⟩
        replace ZC := Aside0.mk (cb hb_ ZC.out)
        replace XC := Aside0.mk (cb hb_ XC.out)
        replace HG := Aside0.mk (cb hb_ HG.out)
        replace HB := Aside0.mk (bt HB.out hb_)
        replace HBX := Aside0.mk (blk_below HBX.out hb_)
        replace HX1 := Aside0.mk (Kd.C_below HX1.out hb_)
        replace HY1 := Aside0.mk (Kd.C_below HY1.out hb_)
        replace HX2 := Aside0.mk (Kd.C_below HX2.out hb_)
        replace HY2 := Aside0.mk (Kd.C_below HY2.out hb_)
        clear d0 d1 d2 d3
        clear hb_
        rw [tx]
        have d0 := (blk_cell HBX.out 0).trans rfl
        have d1 := (blk_cell HBX.out 1).trans rfl
        have d2 := (blk_cell HBX.out 2).trans rfl
        have d3 := (blk_cell HBX.out 3).trans rfl
        go_wp2_with fail
        refine (ints_c (some aq) Ay2 cy1 cy2 ys ys _ HY1.out HY2.out).mono ?_
        rintro e w43_ ⟨rfl, hb_⟩
        replace ZC := Aside0.mk (cb hb_ ZC.out)
        replace XC := Aside0.mk (cb hb_ XC.out)
        replace HG := Aside0.mk (cb hb_ HG.out)
        replace HB := Aside0.mk (bt HB.out hb_)
        replace HBX := Aside0.mk (blk_below HBX.out hb_)
        replace HX1 := Aside0.mk (Kd.C_below HX1.out hb_)
        replace HY1 := Aside0.mk (Kd.C_below HY1.out hb_)
        replace HX2 := Aside0.mk (Kd.C_below HX2.out hb_)
        replace HY2 := Aside0.mk (Kd.C_below HY2.out hb_)
        clear d0 d1 d2 d3
        clear hb_
        rw [ty]
        have d0 := (blk_cell HBX.out 0).trans rfl
        have d1 := (blk_cell HBX.out 1).trans rfl
        have d2 := (blk_cell HBX.out 2).trans rfl
        have d3 := (blk_cell HBX.out 3).trans rfl
        rw [E0.out] at d0
        rw [E3.out] at d3
        have z2 := ZC.out
        have x3 := XC.out
        have g0 : w43_.cell? aq = some (.int .i64 (rd ys 0)) := HG.out
        go_wp2_with fail
        refine (awake_c _).mono ?_
        rintro e w44_ ⟨rfl, hb_⟩
        replace HB := Aside0.mk (bt HB.out hb_)
        replace HBX := Aside0.mk (blk_below HBX.out hb_)
        replace HX1 := Aside0.mk (Kd.C_below HX1.out hb_)
        replace HY1 := Aside0.mk (Kd.C_below HY1.out hb_)
        replace HX2 := Aside0.mk (Kd.C_below HX2.out hb_)
        replace HY2 := Aside0.mk (Kd.C_below HY2.out hb_)
        clear d0 d1 d2 d3
        clear hb_
        go_wp2_with fail
        go_ret
        exact ⟨ret_bool rfl, HB.out⟩
      rw [if_neg hy]
      obtain rfl : xs = [] := List.eq_nil_of_length_eq_zero zx
      obtain rfl : ys = [] := List.eq_nil_of_length_eq_zero (by omega)
      clear zx hx hy
      have tx : (([] : List Int) == []) = true := rfl
      go_wp2_with fail
      refine (ints_c Ax1 Ax2 cx1 cx2 [] [] _ HX1.out HX2.out).mono ?_
      rintro e w45_ ⟨rfl, hb_⟩
      replace ZC := Aside0.mk (cb hb_ ZC.out)
      replace XC := Aside0.mk (cb hb_ XC.out)
      replace HB := Aside0.mk (bt HB.out hb_)
      replace HBX := Aside0.mk (blk_below HBX.out hb_)
      replace HX1 := Aside0.mk (Kd.C_below HX1.out hb_)
      replace HY1 := Aside0.mk (Kd.C_below HY1.out hb_)
      replace HX2 := Aside0.mk (Kd.C_below HX2.out hb_)
      replace HY2 := Aside0.mk (Kd.C_below HY2.out hb_)
      clear d0 d1 d2 d3
      clear hb_
      rw [tx]
      have d0 := (blk_cell HBX.out 0).trans rfl
      have d1 := (blk_cell HBX.out 1).trans rfl
      have d2 := (blk_cell HBX.out 2).trans rfl
      have d3 := (blk_cell HBX.out 3).trans rfl
      go_wp2_with fail
      refine (ints_c Ay1 Ay2 cy1 cy2 [] [] _ HY1.out HY2.out).mono ?_
      rintro e w46_ ⟨rfl, hb_⟩
      replace ZC := Aside0.mk (cb hb_ ZC.out)
      replace XC := Aside0.mk (cb hb_ XC.out)
      replace HB := Aside0.mk (bt HB.out hb_)
      replace HBX := Aside0.mk (blk_below HBX.out hb_)
      replace HX1 := Aside0.mk (Kd.C_below HX1.out hb_)
      replace HY1 := Aside0.mk (Kd.C_below HY1.out hb_)
      replace HX2 := Aside0.mk (Kd.C_below HX2.out hb_)
      replace HY2 := Aside0.mk (Kd.C_below HY2.out hb_)
      clear d0 d1 d2 d3
      clear hb_
      rw [tx]
      have d0 := (blk_cell HBX.out 0).trans rfl
      have d1 := (blk_cell HBX.out 1).trans rfl
      have d2 := (blk_cell HBX.out 2).trans rfl
      have d3 := (blk_cell HBX.out 3).trans rfl
      rw [E0.out] at d0
      rw [E3.out] at d3
      have z2 := ZC.out
      have x3 := XC.out
      go_wp2_with fail
      refine (awake_c _).mono ?_
      rintro e w47_ ⟨rfl, hb_⟩
      replace HB := Aside0.mk (bt HB.out hb_)
      replace HBX := Aside0.mk (blk_below HBX.out hb_)
      replace HX1 := Aside0.mk (Kd.C_below HX1.out hb_)
      replace HY1 := Aside0.mk (Kd.C_below HY1.out hb_)
      replace HX2 := Aside0.mk (Kd.C_below HX2.out hb_)
      replace HY2 := Aside0.mk (Kd.C_below HY2.out hb_)
      clear d0 d1 d2 d3
      clear hb_
      go_wp2_with fail
      go_ret
      exact ⟨ret_bool rfl, HB.out⟩
end Go.Proofs.Ytkbdphjnpieceaa.G
