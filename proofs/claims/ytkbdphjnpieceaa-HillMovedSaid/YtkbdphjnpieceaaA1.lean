/- alike: two lands in which the same walls block. -/
import Derived.Test.YtkbdphjnpieceaaP5
namespace Go.Proofs.Ytkbdphjnpieceaa.G
open Go.RowKit Go.Proofs.YtkbdphjnpieceaaW.PrintWords Go.Proofs.YtkbdphjnpieceaaW.PrintLast Go.Proofs.YtkbdphjnpieceaaW.PrintMore
set_option linter.unusedVariables false
set_option linter.unusedSimpArgs false
set_option maxHeartbeats 8000000 in
set_option maxRecDepth 100000 in
theorem alike_c (R M : Rv) (f t : Int) (w : World) (hR : R.In w) (hM : M.In w) (hFR : R.Few) (hFM : M.Few) (hA : Agree R.lv M.lv f t) : Calls Try.prog 36 #[.agg R.cells, .agg M.cells, .int .i64 f, .int .i64 t] w fun e w' => e = .returned (.bool true) ∧ Below w.heap.size w w' := by
  have HI := Aside0.mk hR
  have HM := Aside0.mk hM
  have HF := Aside0.mk hFR
  have HG := Aside0.mk hFM
  have lR2 := hFR.c
  have lR3 := hFR.u
  clear hR hM hFR hFM
  obtain ⟨xs, hx⟩ : ∃ xs, alwaysE R.lv f t = (xs, 0) := ⟨_, Prod.ext rfl hA.al.1⟩
  have HX0 := Aside0.mk hx
  have HX1 := Aside0.mk (hA.al.2.trans hx)
  obtain ⟨r, q, hr⟩ : ∃ r q, riseE R.lv f t = (r, q) := ⟨_, _, rfl⟩
  have HR0 := Aside0.mk hr
  have HR1 := Aside0.mk (hA.ri.trans hr)
  have HWA := Aside0.mk hA.wa
  clear hx hr hA
  have HLN := Aside0.mk (And.intro (lv_len2 R) (lv_len3 R))
  simp only [Rv.cells] at *
  go_enter Try.func36, Try.ntmps36
  go_upto_region 1 with (fail)
  refine wp_abs (fun W => Below w.heap.size w W ∧ W.heap[w.heap.size]? = some (.cells #[.slice R.A0 R.st.length R.c0, .slice R.A1 R.ri.length R.c1, .slice R.A2 R.ca.length R.c2, .slice R.A3 R.su.length R.c3] 27 (0, 0)) ∧ W.heap[w.heap.size + 1]? = some (.cells #[.slice M.A0 M.st.length M.c0, .slice M.A1 M.ri.length M.c1, .slice M.A2 M.ca.length M.c2, .slice M.A3 M.su.length M.c3] 27 (0, 0))) ⟨below_alloc (b1 _ _) _, blk_alloc (blk_new w _) _, by have h_ := blk_new (w.alloc (.cells #[.slice R.A0 R.st.length R.c0, .slice R.A1 R.ri.length R.c1, .slice R.A2 R.ca.length R.c2, .slice R.A3 R.su.length R.c3] 27)) (.cells #[.slice M.A0 M.st.length M.c0, .slice M.A1 M.ri.length M.c1, .slice M.A2 M.ca.length M.c2, .slice M.A3 M.su.length M.c3] 27); simpa using h_⟩ ?_
  rintro W ⟨k0_, k1_, k2_⟩
  have HB := Aside0.mk k0_
  have HBX := Aside0.mk k1_
  have HBM := Aside0.mk k2_
  clear k0_ k1_ k2_
  have d0 := (blk_cell HBX.out 0).trans rfl
  have x0_ := (blk_cell HBM.out 0).trans rfl
  have d1 := (blk_cell HBX.out 1).trans rfl
  have x1_ := (blk_cell HBM.out 1).trans rfl
  have d2 := (blk_cell HBX.out 2).trans rfl
  have x2_ := (blk_cell HBM.out 2).trans rfl
  have d3 := (blk_cell HBX.out 3).trans rfl
  have x3_ := (blk_cell HBM.out 3).trans rfl
  go_wp2_with fail
  refine (lland_c R _ (HI.out.below HB.out) HF.out).mono ?_
  rintro e w1_ ⟨L, rfl, hO, hL, hb_⟩
  replace HB := Aside0.mk (bt HB.out hb_)
  replace HBX := Aside0.mk (blk_below HBX.out hb_)
  replace HBM := Aside0.mk (blk_below HBM.out hb_)
  clear d0 d1 d2 d3 x0_ x1_ x2_ x3_
  clear hb_
  have d0 := (blk_cell HBX.out 0).trans rfl
  have x0_ := (blk_cell HBM.out 0).trans rfl
  have d1 := (blk_cell HBX.out 1).trans rfl
  have x1_ := (blk_cell HBM.out 1).trans rfl
  have d2 := (blk_cell HBX.out 2).trans rfl
  have x2_ := (blk_cell HBM.out 2).trans rfl
  have d3 := (blk_cell HBX.out 3).trans rfl
  have x3_ := (blk_cell HBM.out 3).trans rfl
  have HO := Aside0.mk hO
  have HL := Aside0.mk hL
  clear hO hL
  go_wp2_with fail
  refine (of_always HO.out HL.out f t).mono ?_
  rintro e w2_ ⟨A0, c0, rfl, hY, hb_⟩
  replace HB := Aside0.mk (bt HB.out hb_)
  replace HBX := Aside0.mk (blk_below HBX.out hb_)
  replace HBM := Aside0.mk (blk_below HBM.out hb_)
  clear d0 d1 d2 d3 x0_ x1_ x2_ x3_
  clear hb_
  have d0 := (blk_cell HBX.out 0).trans rfl
  have x0_ := (blk_cell HBM.out 0).trans rfl
  have d1 := (blk_cell HBX.out 1).trans rfl
  have x1_ := (blk_cell HBM.out 1).trans rfl
  have d2 := (blk_cell HBX.out 2).trans rfl
  have x2_ := (blk_cell HBM.out 2).trans rfl
  have d3 := (blk_cell HBX.out 3).trans rfl
  have x3_ := (blk_cell HBM.out 3).trans rfl
  rw [HX0.out] at hY
  rw [HX0.out]
  have HY0 := Aside0.mk hY
  clear hY HO HL
  have lx := HY0.out.2.1
  go_wp2_with fail
  refine (lland_c M _ (HM.out.below HB.out) HG.out).mono ?_
  rintro e w3_ ⟨L, rfl, hO, hL, hb_⟩
  replace HB := Aside0.mk (bt HB.out hb_)
  replace HBX := Aside0.mk (blk_below HBX.out hb_)
  replace HBM := Aside0.mk (blk_below HBM.out hb_)
  replace HY0 := Aside0.mk (Kd.C_below HY0.out hb_)
  clear d0 d1 d2 d3 x0_ x1_ x2_ x3_
  clear hb_
  have d0 := (blk_cell HBX.out 0).trans rfl
  have x0_ := (blk_cell HBM.out 0).trans rfl
  have d1 := (blk_cell HBX.out 1).trans rfl
  have x1_ := (blk_cell HBM.out 1).trans rfl
  have d2 := (blk_cell HBX.out 2).trans rfl
  have x2_ := (blk_cell HBM.out 2).trans rfl
  have d3 := (blk_cell HBX.out 3).trans rfl
  have x3_ := (blk_cell HBM.out 3).trans rfl
  have HO := Aside0.mk hO
  have HL := Aside0.mk hL
  clear hO hL
  go_wp2_with fail
  refine (of_always HO.out HL.out f t).mono ?_
  rintro e w4_ ⟨A1, c1, rfl, hY, hb_⟩
  replace HB := Aside0.mk (bt HB.out hb_)
  replace HBX := Aside0.mk (blk_below HBX.out hb_)
  replace HBM := Aside0.mk (blk_below HBM.out hb_)
  replace HY0 := Aside0.mk (Kd.C_below HY0.out hb_)
  clear d0 d1 d2 d3 x0_ x1_ x2_ x3_
  clear hb_
  have d0 := (blk_cell HBX.out 0).trans rfl
  have x0_ := (blk_cell HBM.out 0).trans rfl
  have d1 := (blk_cell HBX.out 1).trans rfl
  have x1_ := (blk_cell HBM.out 1).trans rfl
  have d2 := (blk_cell HBX.out 2).trans rfl
  have x2_ := (blk_cell HBM.out 2).trans rfl
  have d3 := (blk_cell HBX.out 3).trans rfl
  have x3_ := (blk_cell HBM.out 3).trans rfl
  rw [HX1.out] at hY
  rw [HX1.out]
  have HY1 := Aside0.mk hY
  clear hY HO HL
  go_wp2_with fail
  refine (lland_c R _ (HI.out.below HB.out) HF.out).mono ?_
  rintro e w5_ ⟨L, rfl, hO, hL, hb_⟩
  replace HB := Aside0.mk (bt HB.out hb_)
  replace HBX := Aside0.mk (blk_below HBX.out hb_)
  replace HBM := Aside0.mk (blk_below HBM.out hb_)
  replace HY0 := Aside0.mk (Kd.C_below HY0.out hb_)
  replace HY1 := Aside0.mk (Kd.C_below HY1.out hb_)
  clear d0 d1 d2 d3 x0_ x1_ x2_ x3_
  clear hb_
  have d0 := (blk_cell HBX.out 0).trans rfl
  have x0_ := (blk_cell HBM.out 0).trans rfl
  have d1 := (blk_cell HBX.out 1).trans rfl
  have x1_ := (blk_cell HBM.out 1).trans rfl
  have d2 := (blk_cell HBX.out 2).trans rfl
  have x2_ := (blk_cell HBM.out 2).trans rfl
  have d3 := (blk_cell HBX.out 3).trans rfl
  have x3_ := (blk_cell HBM.out 3).trans rfl
  have HO := Aside0.mk hO
  have HL := Aside0.mk hL
  clear hO hL
  go_wp2_with fail
  refine (of_rise HO.out HL.out f t).mono ?_
  rintro e w6_ ⟨rfl, hb_⟩
  replace HB := Aside0.mk (bt HB.out hb_)
  replace HBX := Aside0.mk (blk_below HBX.out hb_)
  replace HBM := Aside0.mk (blk_below HBM.out hb_)
  replace HY0 := Aside0.mk (Kd.C_below HY0.out hb_)
  replace HY1 := Aside0.mk (Kd.C_below HY1.out hb_)
  clear d0 d1 d2 d3 x0_ x1_ x2_ x3_
  clear hb_
  have d0 := (blk_cell HBX.out 0).trans rfl
  have x0_ := (blk_cell HBM.out 0).trans rfl
  have d1 := (blk_cell HBX.out 1).trans rfl
  have x1_ := (blk_cell HBM.out 1).trans rfl
  have d2 := (blk_cell HBX.out 2).trans rfl
  have x2_ := (blk_cell HBM.out 2).trans rfl
  have d3 := (blk_cell HBX.out 3).trans rfl
  have x3_ := (blk_cell HBM.out 3).trans rfl
  rw [HR0.out]
  clear HO HL
  go_wp2_with fail
  refine (lland_c M _ (HM.out.below HB.out) HG.out).mono ?_
  rintro e w7_ ⟨L, rfl, hO, hL, hb_⟩
  replace HB := Aside0.mk (bt HB.out hb_)
  replace HBX := Aside0.mk (blk_below HBX.out hb_)
  replace HBM := Aside0.mk (blk_below HBM.out hb_)
  replace HY0 := Aside0.mk (Kd.C_below HY0.out hb_)
  replace HY1 := Aside0.mk (Kd.C_below HY1.out hb_)
  clear d0 d1 d2 d3 x0_ x1_ x2_ x3_
  clear hb_
  have d0 := (blk_cell HBX.out 0).trans rfl
  have x0_ := (blk_cell HBM.out 0).trans rfl
  have d1 := (blk_cell HBX.out 1).trans rfl
  have x1_ := (blk_cell HBM.out 1).trans rfl
  have d2 := (blk_cell HBX.out 2).trans rfl
  have x2_ := (blk_cell HBM.out 2).trans rfl
  have d3 := (blk_cell HBX.out 3).trans rfl
  have x3_ := (blk_cell HBM.out 3).trans rfl
  have HO := Aside0.mk hO
  have HL := Aside0.mk hL
  clear hO hL
  go_wp2_with fail
  refine (of_rise HO.out HL.out f t).mono ?_
  rintro e w8_ ⟨rfl, hb_⟩
  replace HB := Aside0.mk (bt HB.out hb_)
  replace HBX := Aside0.mk (blk_below HBX.out hb_)
  replace HBM := Aside0.mk (blk_below HBM.out hb_)
  replace HY0 := Aside0.mk (Kd.C_below HY0.out hb_)
  replace HY1 := Aside0.mk (Kd.C_below HY1.out hb_)
  clear d0 d1 d2 d3 x0_ x1_ x2_ x3_
  clear hb_
  have d0 := (blk_cell HBX.out 0).trans rfl
  have x0_ := (blk_cell HBM.out 0).trans rfl
  have d1 := (blk_cell HBX.out 1).trans rfl
  have x1_ := (blk_cell HBM.out 1).trans rfl
  have d2 := (blk_cell HBX.out 2).trans rfl
  have x2_ := (blk_cell HBM.out 2).trans rfl
  have d3 := (blk_cell HBX.out 3).trans rfl
  have x3_ := (blk_cell HBM.out 3).trans rfl
  rw [HR1.out]
  clear HO HL
  have tq : (q != q) = false := by simp
  have tr : (r != r) = false := by simp
  go_wp2_with fail
  refine (ints_c A0 A1 c0 c1 xs xs _ HY0.out HY1.out).mono ?_
  rintro e w9_ ⟨rfl, hb_⟩
  replace HB := Aside0.mk (bt HB.out hb_)
  replace HBX := Aside0.mk (blk_below HBX.out hb_)
  replace HBM := Aside0.mk (blk_below HBM.out hb_)
  replace HY0 := Aside0.mk (Kd.C_below HY0.out hb_)
  replace HY1 := Aside0.mk (Kd.C_below HY1.out hb_)
  clear d0 d1 d2 d3 x0_ x1_ x2_ x3_
  clear hb_
  have d0 := (blk_cell HBX.out 0).trans rfl
  have x0_ := (blk_cell HBM.out 0).trans rfl
  have d1 := (blk_cell HBX.out 1).trans rfl
  have x1_ := (blk_cell HBM.out 1).trans rfl
  have d2 := (blk_cell HBX.out 2).trans rfl
  have x2_ := (blk_cell HBM.out 2).trans rfl
  have d3 := (blk_cell HBX.out 3).trans rfl
  have x3_ := (blk_cell HBM.out 3).trans rfl
  rw [beq_self_eq_true xs]
  clear HY0 HY1
  go_wp2_with fail
  clear tq tr
  clear d0 d1 d2 d3 x0_ x1_ x2_ x3_
  go_loopg [17] R.ca.length (fun gg s17 wr => ∃ k : Int, s17 = .int .i64 k ∧ 0 ≤ k ∧ k ≤ (R.ca.length : Int) ∧ (R.ca.length : Int) - k ≤ (gg : Int) ∧ Aside0 (Below w.heap.size w wr) ∧ Aside0 (wr.heap[w.heap.size]? = some (.cells #[.slice R.A0 R.st.length R.c0, .slice R.A1 R.ri.length R.c1, .slice R.A2 R.ca.length R.c2, .slice R.A3 R.su.length R.c3] 27 (0, 0))) ∧ Aside0 (wr.heap[w.heap.size + 1]? = some (.cells #[.slice M.A0 M.st.length M.c0, .slice M.A1 M.ri.length M.c1, .slice M.A2 M.ca.length M.c2, .slice M.A3 M.su.length M.c3] 27 (0, 0))))
  case atStart => exact ⟨0, rfl, by omega, by omega, by omega, HB, HBX, HBM⟩
  case round =>
    clear HB HBX HBM
    obtain ⟨k, rfl, k0, k1, hgk, HB, HBX, HBM⟩ := hrel
    obtain ⟨W2, rfl⟩ : ∃ W2 : World, W2 = wr := ⟨_, rfl⟩
    have d0 := (blk_cell HBX.out 0).trans rfl
    have x0_ := (blk_cell HBM.out 0).trans rfl
    have d1 := (blk_cell HBX.out 1).trans rfl
    have x1_ := (blk_cell HBM.out 1).trans rfl
    have d2 := (blk_cell HBX.out 2).trans rfl
    have x2_ := (blk_cell HBM.out 2).trans rfl
    have d3 := (blk_cell HBX.out 3).trans rfl
    have x3_ := (blk_cell HBM.out 3).trans rfl
    by_cases hkt : k < (R.ca.length : Int)
    · go_wp2_with fail
      clear d0 d1 d2 d3 x0_ x1_ x2_ x3_
      go_loopg [18] R.su.length (fun gg s18 wr => ∃ h : Int, s18 = .int .i64 h ∧ 0 ≤ h ∧ h ≤ (R.su.length : Int) ∧ (R.su.length : Int) - h ≤ (gg : Int) ∧ Aside0 (Below w.heap.size w wr) ∧ Aside0 (wr.heap[w.heap.size]? = some (.cells #[.slice R.A0 R.st.length R.c0, .slice R.A1 R.ri.length R.c1, .slice R.A2 R.ca.length R.c2, .slice R.A3 R.su.length R.c3] 27 (0, 0))) ∧ Aside0 (wr.heap[w.heap.size + 1]? = some (.cells #[.slice M.A0 M.st.length M.c0, .slice M.A1 M.ri.length M.c1, .slice M.A2 M.ca.length M.c2, .slice M.A3 M.su.length M.c3] 27 (0, 0))))
      case atStart => exact ⟨0, rfl, by omega, by omega, by omega, HB, HBX, HBM⟩
      case round =>
        clear HB HBX HBM
        obtain ⟨h, rfl, h0, h1, hgh, HB, HBX, HBM⟩ := hrel
        obtain ⟨W3, rfl⟩ : ∃ W3 : World, W3 = wr := ⟨_, rfl⟩
        have d0 := (blk_cell HBX.out 0).trans rfl
        have x0_ := (blk_cell HBM.out 0).trans rfl
        have d1 := (blk_cell HBX.out 1).trans rfl
        have x1_ := (blk_cell HBM.out 1).trans rfl
        have d2 := (blk_cell HBX.out 2).trans rfl
        have x2_ := (blk_cell HBM.out 2).trans rfl
        have d3 := (blk_cell HBX.out 3).trans rfl
        have x3_ := (blk_cell HBM.out 3).trans rfl
        by_cases hht : h < (R.su.length : Int)
        · have hwa := HWA.out k h k0 (by rw [HLN.out.1]; exact hkt) h0 (by rw [HLN.out.2]; exact hht)
          obtain ⟨ps, qs, hw0⟩ : ∃ ps qs, wallsE R.lv f t k h = (ps, qs, 0) := ⟨_, _, Prod.ext rfl (Prod.ext rfl hwa.1)⟩
          have HW0 := Aside0.mk hw0
          have HW1 := Aside0.mk (hwa.2.1.trans hw0)
          obtain ⟨y, z, hy0⟩ : ∃ y z, whyE R.lv f t k h = (y, z, 0) := ⟨_, _, Prod.ext rfl (Prod.ext rfl hwa.2.2.1)⟩
          have HZ0 := Aside0.mk hy0
          have HZ1 := Aside0.mk (hwa.2.2.2.trans hy0)
          clear hwa hw0 hy0
          go_wp2_with fail
          refine (lland_c R _ (HI.out.below HB.out) HF.out).mono ?_
          rintro e w10_ ⟨L, rfl, hO, hL, hb_⟩
          replace HB := Aside0.mk (bt HB.out hb_)
          replace HBX := Aside0.mk (blk_below HBX.out hb_)
          replace HBM := Aside0.mk (blk_below HBM.out hb_)
          clear d0 d1 d2 d3 x0_ x1_ x2_ x3_
          clear hb_
          have d0 := (blk_cell HBX.out 0).trans rfl
          have x0_ := (blk_cell HBM.out 0).trans rfl
          have d1 := (blk_cell HBX.out 1).trans rfl
          have x1_ := (blk_cell HBM.out 1).trans rfl
          have d2 := (blk_cell HBX.out 2).trans rfl
          have x2_ := (blk_cell HBM.out 2).trans rfl
          have d3 := (blk_cell HBX.out 3).trans rfl
          have x3_ := (blk_cell HBM.out 3).trans rfl
          have HO := Aside0.mk hO
          have HL := Aside0.mk hL
          clear hO hL
          go_wp2_with fail
          refine (of_walls HO.out HL.out f t k h).mono ?_
          rintro e w11_ ⟨Ax0, cx0, Ay0, cy0, rfl, hX_, hY_, hb_⟩
          replace HB := Aside0.mk (bt HB.out hb_)
          replace HBX := Aside0.mk (blk_below HBX.out hb_)
          replace HBM := Aside0.mk (blk_below HBM.out hb_)
          clear d0 d1 d2 d3 x0_ x1_ x2_ x3_
          clear hb_
          have d0 := (blk_cell HBX.out 0).trans rfl
          have x0_ := (blk_cell HBM.out 0).trans rfl
          have d1 := (blk_cell HBX.out 1).trans rfl
          have x1_ := (blk_cell HBM.out 1).trans rfl
          have d2 := (blk_cell HBX.out 2).trans rfl
          have x2_ := (blk_cell HBM.out 2).trans rfl
          have d3 := (blk_cell HBX.out 3).trans rfl
          have x3_ := (blk_cell HBM.out 3).trans rfl
          rw [HW0.out] at hX_ hY_
          rw [HW0.out]
          have HP0 := Aside0.mk hX_
          have HQ0 := Aside0.mk hY_
          clear hX_ hY_ HO HL
          go_wp2_with fail
          refine (lland_c M _ (HM.out.below HB.out) HG.out).mono ?_
          rintro e w12_ ⟨L, rfl, hO, hL, hb_⟩
          replace HB := Aside0.mk (bt HB.out hb_)
          replace HBX := Aside0.mk (blk_below HBX.out hb_)
          replace HBM := Aside0.mk (blk_below HBM.out hb_)
          replace HP0 := Aside0.mk (Kd.C_below HP0.out hb_)
          replace HQ0 := Aside0.mk (Kd.C_below HQ0.out hb_)
          clear d0 d1 d2 d3 x0_ x1_ x2_ x3_
          clear hb_
          have d0 := (blk_cell HBX.out 0).trans rfl
          have x0_ := (blk_cell HBM.out 0).trans rfl
          have d1 := (blk_cell HBX.out 1).trans rfl
          have x1_ := (blk_cell HBM.out 1).trans rfl
          have d2 := (blk_cell HBX.out 2).trans rfl
          have x2_ := (blk_cell HBM.out 2).trans rfl
          have d3 := (blk_cell HBX.out 3).trans rfl
          have x3_ := (blk_cell HBM.out 3).trans rfl
          have HO := Aside0.mk hO
          have HL := Aside0.mk hL
          clear hO hL
          go_wp2_with fail
          refine (of_walls HO.out HL.out f t k h).mono ?_
          rintro e w13_ ⟨Ax1, cx1, Ay1, cy1, rfl, hX_, hY_, hb_⟩
          replace HB := Aside0.mk (bt HB.out hb_)
          replace HBX := Aside0.mk (blk_below HBX.out hb_)
          replace HBM := Aside0.mk (blk_below HBM.out hb_)
          replace HP0 := Aside0.mk (Kd.C_below HP0.out hb_)
          replace HQ0 := Aside0.mk (Kd.C_below HQ0.out hb_)
          clear d0 d1 d2 d3 x0_ x1_ x2_ x3_
          clear hb_
          have d0 := (blk_cell HBX.out 0).trans rfl
          have x0_ := (blk_cell HBM.out 0).trans rfl
          have d1 := (blk_cell HBX.out 1).trans rfl
          have x1_ := (blk_cell HBM.out 1).trans rfl
          have d2 := (blk_cell HBX.out 2).trans rfl
          have x2_ := (blk_cell HBM.out 2).trans rfl
          have d3 := (blk_cell HBX.out 3).trans rfl
          have x3_ := (blk_cell HBM.out 3).trans rfl
          rw [HW1.out] at hX_ hY_
          rw [HW1.out]
          have HP1 := Aside0.mk hX_
          have HQ1 := Aside0.mk hY_
          clear hX_ hY_ HO HL
          go_wp2_with fail
          refine (lland_c R _ (HI.out.below HB.out) HF.out).mono ?_
          rintro e w14_ ⟨L, rfl, hO, hL, hb_⟩
          replace HB := Aside0.mk (bt HB.out hb_)
          replace HBX := Aside0.mk (blk_below HBX.out hb_)
          replace HBM := Aside0.mk (blk_below HBM.out hb_)
          replace HP0 := Aside0.mk (Kd.C_below HP0.out hb_)
          replace HQ0 := Aside0.mk (Kd.C_below HQ0.out hb_)
          replace HP1 := Aside0.mk (Kd.C_below HP1.out hb_)
          replace HQ1 := Aside0.mk (Kd.C_below HQ1.out hb_)
          clear d0 d1 d2 d3 x0_ x1_ x2_ x3_
          clear hb_
          have d0 := (blk_cell HBX.out 0).trans rfl
          have x0_ := (blk_cell HBM.out 0).trans rfl
          have d1 := (blk_cell HBX.out 1).trans rfl
          have x1_ := (blk_cell HBM.out 1).trans rfl
          have d2 := (blk_cell HBX.out 2).trans rfl
          have x2_ := (blk_cell HBM.out 2).trans rfl
          have d3 := (blk_cell HBX.out 3).trans rfl
          have x3_ := (blk_cell HBM.out 3).trans rfl
          have HO := Aside0.mk hO
          have HL := Aside0.mk hL
          clear hO hL
          go_wp2_with fail
          refine (of_why HO.out HL.out f t k h).mono ?_
          rintro e w15_ ⟨rfl, hb_⟩
          replace HB := Aside0.mk (bt HB.out hb_)
          replace HBX := Aside0.mk (blk_below HBX.out hb_)
          replace HBM := Aside0.mk (blk_below HBM.out hb_)
          replace HP0 := Aside0.mk (Kd.C_below HP0.out hb_)
          replace HQ0 := Aside0.mk (Kd.C_below HQ0.out hb_)
          replace HP1 := Aside0.mk (Kd.C_below HP1.out hb_)
          replace HQ1 := Aside0.mk (Kd.C_below HQ1.out hb_)
          clear d0 d1 d2 d3 x0_ x1_ x2_ x3_
          clear hb_
          have d0 := (blk_cell HBX.out 0).trans rfl
          have x0_ := (blk_cell HBM.out 0).trans rfl
          have d1 := (blk_cell HBX.out 1).trans rfl
          have x1_ := (blk_cell HBM.out 1).trans rfl
          have d2 := (blk_cell HBX.out 2).trans rfl
          have x2_ := (blk_cell HBM.out 2).trans rfl
          have d3 := (blk_cell HBX.out 3).trans rfl
          have x3_ := (blk_cell HBM.out 3).trans rfl
          rw [HZ0.out]
          clear HO HL
          go_wp2_with fail
          refine (lland_c M _ (HM.out.below HB.out) HG.out).mono ?_
          rintro e w16_ ⟨L, rfl, hO, hL, hb_⟩
          replace HB := Aside0.mk (bt HB.out hb_)
          replace HBX := Aside0.mk (blk_below HBX.out hb_)
          replace HBM := Aside0.mk (blk_below HBM.out hb_)
          replace HP0 := Aside0.mk (Kd.C_below HP0.out hb_)
          replace HQ0 := Aside0.mk (Kd.C_below HQ0.out hb_)
          replace HP1 := Aside0.mk (Kd.C_below HP1.out hb_)
          replace HQ1 := Aside0.mk (Kd.C_below HQ1.out hb_)
          clear d0 d1 d2 d3 x0_ x1_ x2_ x3_
          clear hb_
          have d0 := (blk_cell HBX.out 0).trans rfl
          have x0_ := (blk_cell HBM.out 0).trans rfl
          have d1 := (blk_cell HBX.out 1).trans rfl
          have x1_ := (blk_cell HBM.out 1).trans rfl
          have d2 := (blk_cell HBX.out 2).trans rfl
          have x2_ := (blk_cell HBM.out 2).trans rfl
          have d3 := (blk_cell HBX.out 3).trans rfl
          have x3_ := (blk_cell HBM.out 3).trans rfl
          have HO := Aside0.mk hO
          have HL := Aside0.mk hL
          clear hO hL
          go_wp2_with fail
          refine (of_why HO.out HL.out f t k h).mono ?_
          rintro e w17_ ⟨rfl, hb_⟩
          replace HB := Aside0.mk (bt HB.out hb_)
          replace HBX := Aside0.mk (blk_below HBX.out hb_)
          replace HBM := Aside0.mk (blk_below HBM.out hb_)
          replace HP0 := Aside0.mk (Kd.C_below HP0.out hb_)
          replace HQ0 := Aside0.mk (Kd.C_below HQ0.out hb_)
          replace HP1 := Aside0.mk (Kd.C_below HP1.out hb_)
          replace HQ1 := Aside0.mk (Kd.C_below HQ1.out hb_)
          clear d0 d1 d2 d3 x0_ x1_ x2_ x3_
          clear hb_
          have d0 := (blk_cell HBX.out 0).trans rfl
          have x0_ := (blk_cell HBM.out 0).trans rfl
          have d1 := (blk_cell HBX.out 1).trans rfl
          have x1_ := (blk_cell HBM.out 1).trans rfl
          have d2 := (blk_cell HBX.out 2).trans rfl
          have x2_ := (blk_cell HBM.out 2).trans rfl
          have d3 := (blk_cell HBX.out 3).trans rfl
          have x3_ := (blk_cell HBM.out 3).trans rfl
          rw [HZ1.out]
          clear HO HL
          have ty : (y != y) = false := by simp
          have tz : (z != z) = false := by simp
          go_wp2_with fail
          refine (ints_c Ax0 Ax1 cx0 cx1 ps ps _ HP0.out HP1.out).mono ?_
          rintro e w18_ ⟨rfl, hb_⟩
          replace HB := Aside0.mk (bt HB.out hb_)
          replace HBX := Aside0.mk (blk_below HBX.out hb_)
          replace HBM := Aside0.mk (blk_below HBM.out hb_)
          replace HP0 := Aside0.mk (Kd.C_below HP0.out hb_)
          replace HQ0 := Aside0.mk (Kd.C_below HQ0.out hb_)
          replace HP1 := Aside0.mk (Kd.C_below HP1.out hb_)
          replace HQ1 := Aside0.mk (Kd.C_below HQ1.out hb_)
          clear d0 d1 d2 d3 x0_ x1_ x2_ x3_
          clear hb_
          have d0 := (blk_cell HBX.out 0).trans rfl
          have x0_ := (blk_cell HBM.out 0).trans rfl
          have d1 := (blk_cell HBX.out 1).trans rfl
          have x1_ := (blk_cell HBM.out 1).trans rfl
          have d2 := (blk_cell HBX.out 2).trans rfl
          have x2_ := (blk_cell HBM.out 2).trans rfl
          have d3 := (blk_cell HBX.out 3).trans rfl
          have x3_ := (blk_cell HBM.out 3).trans rfl
          rw [beq_self_eq_true ps]
          go_wp2_with fail
          refine (ints_c Ay0 Ay1 cy0 cy1 qs qs _ HQ0.out HQ1.out).mono ?_
          rintro e w19_ ⟨rfl, hb_⟩
          replace HB := Aside0.mk (bt HB.out hb_)
          replace HBX := Aside0.mk (blk_below HBX.out hb_)
          replace HBM := Aside0.mk (blk_below HBM.out hb_)
          replace HP0 := Aside0.mk (Kd.C_below HP0.out hb_)
          replace HQ0 := Aside0.mk (Kd.C_below HQ0.out hb_)
          replace HP1 := Aside0.mk (Kd.C_below HP1.out hb_)
          replace HQ1 := Aside0.mk (Kd.C_below HQ1.out hb_)
          clear d0 d1 d2 d3 x0_ x1_ x2_ x3_
          clear hb_
          have d0 := (blk_cell HBX.out 0).trans rfl
          have x0_ := (blk_cell HBM.out 0).trans rfl
          have d1 := (blk_cell HBX.out 1).trans rfl
          have x1_ := (blk_cell HBM.out 1).trans rfl
          have d2 := (blk_cell HBX.out 2).trans rfl
          have x2_ := (blk_cell HBM.out 2).trans rfl
          have d3 := (blk_cell HBX.out 3).trans rfl
          have x3_ := (blk_cell HBM.out 3).trans rfl
          rw [beq_self_eq_true qs]
          go_wp2_with fail
          go_roundg (R.su.length - (h + 1).toNat)
          case measure => omega
          case rel => exact ⟨h + 1, by first | rfl | go_num, by omega, by omega, by omega, HB, HBX, HBM⟩
        · have e_ : h = (R.su.length : Int) := by omega
          subst e_
          go_wp2_with fail
          go_roundg (R.ca.length - (k + 1).toNat)
          case measure => omega
          case rel => exact ⟨k + 1, by first | rfl | go_num, by omega, by omega, by omega, HB, HBX, HBM⟩
    · have e_ : k = (R.ca.length : Int) := by omega
      subst e_
      go_wp2_with fail
      go_ret
      exact ⟨ret_bool rfl, HB.out⟩
end Go.Proofs.Ytkbdphjnpieceaa.G
