/- HillReaches: the walk. -/
import Derived.Test.YtkbdphjnpieceaaL5
namespace Go.Proofs.Ytkbdphjnpieceaa.G
open Go.RowKit Go.Proofs.YtkbdphjnpieceaaW.PrintWords Go.Proofs.YtkbdphjnpieceaaW.PrintLast Go.Proofs.YtkbdphjnpieceaaW.PrintMore
set_option linter.unusedVariables false
set_option linter.unusedSimpArgs false
set_option maxHeartbeats 8000000 in
set_option maxRecDepth 100000 in
theorem hillReaches_c (a0 : Rv) (a1 : Int) (a2 : Int) (a3 : Int) (a4 : Int) (w : World) (h0 : a0.In w) (h1 : (Lit.int .i64 a1).wf = true) (h2 : (Lit.int .i64 a2).wf = true) (h3 : (Lit.int .i64 a3).wf = true) (h4 : (Lit.int .i64 a4).wf = true) :
    Calls Try.prog 3 #[.agg a0.cells, .int .i64 a1, .int .i64 a2, .int .i64 a3, .int .i64 a4] w fun e w' => e = .returned (.bool true) ∧ Below w.heap.size w w' := by
  have HI := Aside0.mk h0
  have HB := Aside0.mk (b1 w (.cells a0.cells 27))
  have HBX := Aside0.mk (blk_new w (.cells a0.cells 27))
  have l0 := h0.r0.2.1
  have l1 := h0.r1.2.1
  have l2 := h0.r2.2.1
  have l3 := h0.r3.2.1
  clear h0
  simp only [Rv.cells] at *
  by_cases hth : a0.thin = true
  rotate_left
  · have HT : Aside0 (a0.thin = false) := ⟨by simpa using hth⟩
    clear hth
    go_enter Try.func3, Try.ntmps3
    have d0 := (blk_cell HBX.out 0).trans rfl
    have d1 := (blk_cell HBX.out 1).trans rfl
    have d2 := (blk_cell HBX.out 2).trans rfl
    have d3 := (blk_cell HBX.out 3).trans rfl
    go_wp2_with fail
    refine (thin_c a0 _ (HI.out.below HB.out)).mono ?_
    rintro e w1_ ⟨rfl, hb_⟩
    replace HB := Aside0.mk (bt HB.out hb_)
    replace HBX := Aside0.mk (blk_below HBX.out hb_)
    clear d0 d1 d2 d3
    clear hb_
    have d0 := (blk_cell HBX.out 0).trans rfl
    have d1 := (blk_cell HBX.out 1).trans rfl
    have d2 := (blk_cell HBX.out 2).trans rfl
    have d3 := (blk_cell HBX.out 3).trans rfl
    rw [HT.out]
    go_wp2_with fail
    refine (awake_c _).mono ?_
    rintro e w2_ ⟨rfl, hb_⟩
    replace HB := Aside0.mk (bt HB.out hb_)
    replace HBX := Aside0.mk (blk_below HBX.out hb_)
    clear d0 d1 d2 d3
    clear hb_
    go_wp2_with fail
    go_ret
    exact ⟨ret_bool rfl, HB.out⟩
  have HT := Aside0.mk hth
  have HF := Aside0.mk (Rv.few_of hth)
  clear hth
  go_enter Try.func3, Try.ntmps3
  have d0 := (blk_cell HBX.out 0).trans rfl
  have d1 := (blk_cell HBX.out 1).trans rfl
  have d2 := (blk_cell HBX.out 2).trans rfl
  have d3 := (blk_cell HBX.out 3).trans rfl
  go_wp2_with fail
  refine (thin_c a0 _ (HI.out.below HB.out)).mono ?_
  rintro e w3_ ⟨rfl, hb_⟩
  replace HB := Aside0.mk (bt HB.out hb_)
  replace HBX := Aside0.mk (blk_below HBX.out hb_)
  clear d0 d1 d2 d3
  clear hb_
  have d0 := (blk_cell HBX.out 0).trans rfl
  have d1 := (blk_cell HBX.out 1).trans rfl
  have d2 := (blk_cell HBX.out 2).trans rfl
  have d3 := (blk_cell HBX.out 3).trans rfl
  rw [HT.out]
  go_wp2_with fail
  refine (lland_c a0 _ (HI.out.below HB.out) HF.out).mono ?_
  rintro e w4_ ⟨L, rfl, hO, hL, hb_⟩
  replace HB := Aside0.mk (bt HB.out hb_)
  replace HBX := Aside0.mk (blk_below HBX.out hb_)
  clear d0 d1 d2 d3
  clear hb_
  have d0 := (blk_cell HBX.out 0).trans rfl
  have d1 := (blk_cell HBX.out 1).trans rfl
  have d2 := (blk_cell HBX.out 2).trans rfl
  have d3 := (blk_cell HBX.out 3).trans rfl
  have HO := Aside0.mk hO
  have HL := Aside0.mk hL
  clear hO hL
  go_wp2_with fail
  refine (of_reach HO.out HL.out a1 a3 a4).mono ?_
  rintro e w5_ ⟨Ar, cr, rfl, hC, hb_⟩
  replace HB := Aside0.mk (bt HB.out hb_)
  replace HBX := Aside0.mk (blk_below HBX.out hb_)
  clear d0 d1 d2 d3
  clear hb_
  have d0 := (blk_cell HBX.out 0).trans rfl
  have d1 := (blk_cell HBX.out 1).trans rfl
  have d2 := (blk_cell HBX.out 2).trans rfl
  have d3 := (blk_cell HBX.out 3).trans rfl
  have HRL := Aside0.mk hC
  clear hC HO HL
  go_wp2_with fail
  refine (lland_c a0 _ (HI.out.below HB.out) HF.out).mono ?_
  rintro e w6_ ⟨L, rfl, hO, hL, hb_⟩
  replace HB := Aside0.mk (bt HB.out hb_)
  replace HBX := Aside0.mk (blk_below HBX.out hb_)
  replace HRL := Aside0.mk (Kd.C_below HRL.out hb_)
  clear d0 d1 d2 d3
  clear hb_
  have d0 := (blk_cell HBX.out 0).trans rfl
  have d1 := (blk_cell HBX.out 1).trans rfl
  have d2 := (blk_cell HBX.out 2).trans rfl
  have d3 := (blk_cell HBX.out 3).trans rfl
  have HO := Aside0.mk hO
  have HL := Aside0.mk hL
  clear hO hL
  go_wp2_with fail
  refine (of_mir HO.out HL.out a1 a2 a4).mono ?_
  rintro e w7_ ⟨rfl, hb_⟩
  replace HB := Aside0.mk (bt HB.out hb_)
  replace HBX := Aside0.mk (blk_below HBX.out hb_)
  replace HRL := Aside0.mk (Kd.C_below HRL.out hb_)
  clear d0 d1 d2 d3
  clear hb_
  have d0 := (blk_cell HBX.out 0).trans rfl
  have d1 := (blk_cell HBX.out 1).trans rfl
  have d2 := (blk_cell HBX.out 2).trans rfl
  have d3 := (blk_cell HBX.out 3).trans rfl
  clear HO HL
  go_wp2_with fail
  refine (lfault_c a0 _ (HI.out.below HB.out)).mono ?_
  rintro e w8_ ⟨rfl, hb_⟩
  replace HB := Aside0.mk (bt HB.out hb_)
  replace HBX := Aside0.mk (blk_below HBX.out hb_)
  replace HRL := Aside0.mk (Kd.C_below HRL.out hb_)
  clear d0 d1 d2 d3
  clear hb_
  have d0 := (blk_cell HBX.out 0).trans rfl
  have d1 := (blk_cell HBX.out 1).trans rfl
  have d2 := (blk_cell HBX.out 2).trans rfl
  have d3 := (blk_cell HBX.out 3).trans rfl
  by_cases hc : a0.lv.check = 0
  rotate_left
  · have HC := Aside0.mk hc
    have HDUE : Aside0 (a0.lv.due a1 a2 0 a4 = a0.lv.check) := ⟨due_bad hc⟩
    rw [reach_bad hc] at HRL
    rw [reach_bad hc, mir_bad hc]
    generalize a0.lv.check = c at *
    have t1 : (c == 0) = false := by simpa using hc
    clear hc
    go_wp2_with fail
    clear d0 d1 d2 d3
    go_loopg [16, 17] 1 (fun gg s16 s17 wr => s16 = .slice none 0 0 ∧ s17 = .int .i64 0 ∧ Aside0 (Below w.heap.size w wr) ∧ Aside0 (wr.heap[w.heap.size]? = some (.cells #[.slice a0.A0 a0.st.length a0.c0, .slice a0.A1 a0.ri.length a0.c1, .slice a0.A2 a0.ca.length a0.c2, .slice a0.A3 a0.su.length a0.c3] 27 (0, 0))) ∧ Aside0 (Kd.C (Kd.int .i64) wr Ar ([] : List Int).length []))
    case atStart => exact ⟨rfl, rfl, HB, HBX, HRL⟩
    case round =>
      clear HB HBX HRL
      obtain ⟨rfl, rfl, HB, HBX, HRL⟩ := hrel
      have d0 := (blk_cell HBX.out 0).trans rfl
      have d1 := (blk_cell HBX.out 1).trans rfl
      have d2 := (blk_cell HBX.out 2).trans rfl
      have d3 := (blk_cell HBX.out 3).trans rfl
      rcases Int.lt_or_le 0 (a0.st.length : Int) with hlt | hlt
      all_goals
        go_wp2_with fail
        refine (ints_c Ar none cr 0 [] [] _ HRL.out (Kd.C_nil _ _)).mono ?_
        rintro e w9_ ⟨rfl, hb_⟩
        replace HB := Aside0.mk (bt HB.out hb_)
        replace HBX := Aside0.mk (blk_below HBX.out hb_)
        replace HRL := Aside0.mk (Kd.C_below HRL.out hb_)
        clear d0 d1 d2 d3
        clear hb_
        have d0 := (blk_cell HBX.out 0).trans rfl
        have d1 := (blk_cell HBX.out 1).trans rfl
        have d2 := (blk_cell HBX.out 2).trans rfl
        have d3 := (blk_cell HBX.out 3).trans rfl
        have tb : (([] : List Int) == []) = true := rfl
        rw [tb]
        clear tb
        go_wp2_with fail
        refine (lasked_c a0 a1 a2 0 a4 _ (HI.out.below HB.out)).mono ?_
        rintro e w10_ ⟨rfl, hb_⟩
        replace HB := Aside0.mk (bt HB.out hb_)
        replace HBX := Aside0.mk (blk_below HBX.out hb_)
        replace HRL := Aside0.mk (Kd.C_below HRL.out hb_)
        clear d0 d1 d2 d3
        clear hb_
        rw [HDUE.out]
        go_wp2_with fail
        refine (awake_c _).mono ?_
        rintro e w11_ ⟨rfl, hb_⟩
        replace HB := Aside0.mk (bt HB.out hb_)
        replace HBX := Aside0.mk (blk_below HBX.out hb_)
        replace HRL := Aside0.mk (Kd.C_below HRL.out hb_)
        clear hb_
        go_wp2_with fail
        go_ret
        exact ⟨ret_bool rfl, HB.out⟩
  have HC := Aside0.mk hc
  have hw0 := wr64 (n := (a0.st.length : Int) - 1) (by omega) (by omega)
  have hw2 := wr64 (n := (a0.ca.length : Int) - 1) (by omega) (by omega)
  have hw3 := wr64 (n := (a0.su.length : Int) - 1) (by omega) (by omega)
  have HIN : Aside0 ((a0.lv.st.length : Int) = a0.st.length ∧ (a0.lv.ca.length : Int) = a0.ca.length ∧ (a0.lv.su.length : Int) = a0.su.length) := ⟨by rw [lv_len0], by rw [lv_len2], by rw [lv_len3]⟩
  rw [hc]
  clear hc
  go_wp2_with fail
  refine (in_c _ _ _ _).mono ?_
  rintro e wi0_ ⟨rfl, rfl⟩
  generalize hb0 : inB a1 0 ((a0.st.length : Int) - 1) = b0 at *
  have HB0 := Aside0.mk hb0
  clear hb0
  cases b0
  · have HO2 := Aside0.mk (reach_out (k := a3) (h := a4) (f := a1) HC.out (.inl (by rw [HIN.out.1]; exact HB0.out)))
    rw [HO2.out] at HRL
    rw [HO2.out]
    clear HO2
    go_wp2_with fail
    clear d0 d1 d2 d3
    go_loopg [16, 17] 1 (fun gg s16 s17 wr => s16 = .slice none 0 0 ∧ s17 = .int .i64 0 ∧ Aside0 (Below w.heap.size w wr) ∧ Aside0 (wr.heap[w.heap.size]? = some (.cells #[.slice a0.A0 a0.st.length a0.c0, .slice a0.A1 a0.ri.length a0.c1, .slice a0.A2 a0.ca.length a0.c2, .slice a0.A3 a0.su.length a0.c3] 27 (0, 0))) ∧ Aside0 (Kd.C (Kd.int .i64) wr Ar ([] : List Int).length []))
    case atStart => exact ⟨rfl, rfl, HB, HBX, HRL⟩
    case round =>
      clear HB HBX HRL
      obtain ⟨rfl, rfl, HB, HBX, HRL⟩ := hrel
      have d0 := (blk_cell HBX.out 0).trans rfl
      have d1 := (blk_cell HBX.out 1).trans rfl
      have d2 := (blk_cell HBX.out 2).trans rfl
      have d3 := (blk_cell HBX.out 3).trans rfl
      rcases Int.lt_or_le 0 (a0.st.length : Int) with hlt | hlt
      all_goals
        go_wp2_with fail
        refine (ints_c Ar none cr 0 [] [] _ HRL.out (Kd.C_nil _ _)).mono ?_
        rintro e w12_ ⟨rfl, hb_⟩
        replace HB := Aside0.mk (bt HB.out hb_)
        replace HBX := Aside0.mk (blk_below HBX.out hb_)
        replace HRL := Aside0.mk (Kd.C_below HRL.out hb_)
        clear d0 d1 d2 d3
        clear hb_
        have d0 := (blk_cell HBX.out 0).trans rfl
        have d1 := (blk_cell HBX.out 1).trans rfl
        have d2 := (blk_cell HBX.out 2).trans rfl
        have d3 := (blk_cell HBX.out 3).trans rfl
        have tb : (([] : List Int) == []) = true := rfl
        rw [tb]
        clear tb
        go_wp2_with fail
        by_cases hq : a0.lv.ask a1 a2 0 a4 = 0
        rotate_left
        · have HDUE : Aside0 (a0.lv.due a1 a2 0 a4 = a0.lv.ask a1 a2 0 a4) := ⟨due_ok HC.out⟩
          rw [mir_out HC.out hq]
          refine (lasked_c a0 a1 a2 0 a4 _ (HI.out.below HB.out)).mono ?_
          rintro e w13_ ⟨rfl, hb_⟩
          replace HB := Aside0.mk (bt HB.out hb_)
          replace HBX := Aside0.mk (blk_below HBX.out hb_)
          replace HRL := Aside0.mk (Kd.C_below HRL.out hb_)
          clear d0 d1 d2 d3
          clear hb_
          rw [HDUE.out]
          generalize a0.lv.ask a1 a2 0 a4 = qq at *
          have t5 : (qq == 0) = false := by simpa using hq
          clear hq
          go_wp2_with fail
          refine (awake_c _).mono ?_
          rintro e w14_ ⟨rfl, hb_⟩
          replace HB := Aside0.mk (bt HB.out hb_)
          replace HBX := Aside0.mk (blk_below HBX.out hb_)
          replace HRL := Aside0.mk (Kd.C_below HRL.out hb_)
          clear hb_
          go_wp2_with fail
          go_ret
          exact ⟨ret_bool rfl, HB.out⟩
        have HDUE : Aside0 (a0.lv.due a1 a2 0 a4 = 0) := ⟨(due_ok HC.out).trans hq⟩
        have HAT := Aside0.mk (at_of hq).1
        have HQ := Aside0.mk hq
        clear hq
        refine (lasked_c a0 a1 a2 0 a4 _ (HI.out.below HB.out)).mono ?_
        rintro e w15_ ⟨rfl, hb_⟩
        replace HB := Aside0.mk (bt HB.out hb_)
        replace HBX := Aside0.mk (blk_below HBX.out hb_)
        replace HRL := Aside0.mk (Kd.C_below HRL.out hb_)
        clear d0 d1 d2 d3
        clear hb_
        have d0 := (blk_cell HBX.out 0).trans rfl
        have d1 := (blk_cell HBX.out 1).trans rfl
        have d2 := (blk_cell HBX.out 2).trans rfl
        have d3 := (blk_cell HBX.out 3).trans rfl
        rw [HDUE.out]
        go_wp2_with fail
        refine (rbehind_c a0 a1 a2 0 a4 _ (HI.out.below HB.out) (Lv.ok_of HC.out) HAT.out).mono ?_
        rintro e w16_ ⟨rfl, hb_⟩
        replace HB := Aside0.mk (bt HB.out hb_)
        replace HBX := Aside0.mk (blk_below HBX.out hb_)
        replace HRL := Aside0.mk (Kd.C_below HRL.out hb_)
        clear d0 d1 d2 d3
        clear hb_
        have d0 := (blk_cell HBX.out 0).trans rfl
        have d1 := (blk_cell HBX.out 1).trans rfl
        have d2 := (blk_cell HBX.out 2).trans rfl
        have d3 := (blk_cell HBX.out 3).trans rfl
        obtain ⟨ae, e3, z0, z1, z2⟩ := at_T50 (Kd.C_below HI.out.r3 HB.out) a4 HAT.out.h0 (by have := HAT.out.h1; rwa [lv_len3] at this)
        clear z0 z1
        rw [e3] at d3
        have hh0 := HAT.out.h0
        have hh1 : a4 < a0.su.length := by have := HAT.out.h1; rwa [lv_len3] at this
        have HUP : Aside0 ((rd_T99 a0.lv.su a4).f2 = (rd_T50 a0.su a4).f2) := ⟨by rw [lv_su]; rfl⟩
        by_cases hu : (rd_T50 a0.su a4).f2 ≤ 0
        · have HM := Aside0.mk (mir_night HC.out HQ.out (by rw [HUP.out]; exact hu))
          rw [HM.out]
          generalize behB (rd_T85 a0.lv.st a1) (rd_T85 a0.lv.st a2) (rd_T99 a0.lv.su a4) = bb at *
          clear HM
          cases bb
          · go_wp2_with fail
            refine (awake_c _).mono ?_
            rintro e w17_ ⟨rfl, hb_⟩
            replace HB := Aside0.mk (bt HB.out hb_)
            replace HBX := Aside0.mk (blk_below HBX.out hb_)
            replace HRL := Aside0.mk (Kd.C_below HRL.out hb_)
            clear d0 d1 d2 d3
            clear hb_
            go_wp2_with fail
            go_ret
            exact ⟨ret_bool rfl, HB.out⟩
          · go_wp2_with fail
            refine (awake_c _).mono ?_
            rintro e w18_ ⟨rfl, hb_⟩
            replace HB := Aside0.mk (bt HB.out hb_)
            replace HBX := Aside0.mk (blk_below HBX.out hb_)
            replace HRL := Aside0.mk (Kd.C_below HRL.out hb_)
            clear d0 d1 d2 d3
            clear hb_
            go_wp2_with fail
            go_ret
            exact ⟨ret_bool rfl, HB.out⟩
        · have HM := Aside0.mk (mir_ok HC.out HQ.out (by rw [HUP.out]; exact hu))
          rw [HM.out]
          generalize behB (rd_T85 a0.lv.st a1) (rd_T85 a0.lv.st a2) (rd_T99 a0.lv.su a4) = bb at *
          clear HM
          cases bb
          · go_wp2_with fail
            refine (awake_c _).mono ?_
            rintro e w19_ ⟨rfl, hb_⟩
            replace HB := Aside0.mk (bt HB.out hb_)
            replace HBX := Aside0.mk (blk_below HBX.out hb_)
            replace HRL := Aside0.mk (Kd.C_below HRL.out hb_)
            clear d0 d1 d2 d3
            clear hb_
            go_wp2_with fail
            go_ret
            exact ⟨ret_bool rfl, HB.out⟩
          · go_wp2_with fail
            refine (awake_c _).mono ?_
            rintro e w20_ ⟨rfl, hb_⟩
            replace HB := Aside0.mk (bt HB.out hb_)
            replace HBX := Aside0.mk (blk_below HBX.out hb_)
            replace HRL := Aside0.mk (Kd.C_below HRL.out hb_)
            clear d0 d1 d2 d3
            clear hb_
            go_wp2_with fail
            go_ret
            exact ⟨ret_bool rfl, HB.out⟩
  go_wp2_with fail
  refine (in_c _ _ _ _).mono ?_
  rintro e wi1_ ⟨rfl, rfl⟩
  generalize hb1 : inB a3 0 ((a0.ca.length : Int) - 1) = b1 at *
  have HB1 := Aside0.mk hb1
  clear hb1
  cases b1
  · have HO2 := Aside0.mk (reach_out (k := a3) (h := a4) (f := a1) HC.out (.inr (.inl (by rw [HIN.out.2.1]; exact HB1.out))))
    rw [HO2.out] at HRL
    rw [HO2.out]
    clear HO2
    go_wp2_with fail
    clear d0 d1 d2 d3
    go_loopg [16, 17] 1 (fun gg s16 s17 wr => s16 = .slice none 0 0 ∧ s17 = .int .i64 0 ∧ Aside0 (Below w.heap.size w wr) ∧ Aside0 (wr.heap[w.heap.size]? = some (.cells #[.slice a0.A0 a0.st.length a0.c0, .slice a0.A1 a0.ri.length a0.c1, .slice a0.A2 a0.ca.length a0.c2, .slice a0.A3 a0.su.length a0.c3] 27 (0, 0))) ∧ Aside0 (Kd.C (Kd.int .i64) wr Ar ([] : List Int).length []))
    case atStart => exact ⟨rfl, rfl, HB, HBX, HRL⟩
    case round =>
      clear HB HBX HRL
      obtain ⟨rfl, rfl, HB, HBX, HRL⟩ := hrel
      have d0 := (blk_cell HBX.out 0).trans rfl
      have d1 := (blk_cell HBX.out 1).trans rfl
      have d2 := (blk_cell HBX.out 2).trans rfl
      have d3 := (blk_cell HBX.out 3).trans rfl
      rcases Int.lt_or_le 0 (a0.st.length : Int) with hlt | hlt
      all_goals
        go_wp2_with fail
        refine (ints_c Ar none cr 0 [] [] _ HRL.out (Kd.C_nil _ _)).mono ?_
        rintro e w21_ ⟨rfl, hb_⟩
        replace HB := Aside0.mk (bt HB.out hb_)
        replace HBX := Aside0.mk (blk_below HBX.out hb_)
        replace HRL := Aside0.mk (Kd.C_below HRL.out hb_)
        clear d0 d1 d2 d3
        clear hb_
        have d0 := (blk_cell HBX.out 0).trans rfl
        have d1 := (blk_cell HBX.out 1).trans rfl
        have d2 := (blk_cell HBX.out 2).trans rfl
        have d3 := (blk_cell HBX.out 3).trans rfl
        have tb : (([] : List Int) == []) = true := rfl
        rw [tb]
        clear tb
        go_wp2_with fail
        by_cases hq : a0.lv.ask a1 a2 0 a4 = 0
        rotate_left
        · have HDUE : Aside0 (a0.lv.due a1 a2 0 a4 = a0.lv.ask a1 a2 0 a4) := ⟨due_ok HC.out⟩
          rw [mir_out HC.out hq]
          refine (lasked_c a0 a1 a2 0 a4 _ (HI.out.below HB.out)).mono ?_
          rintro e w22_ ⟨rfl, hb_⟩
          replace HB := Aside0.mk (bt HB.out hb_)
          replace HBX := Aside0.mk (blk_below HBX.out hb_)
          replace HRL := Aside0.mk (Kd.C_below HRL.out hb_)
          clear d0 d1 d2 d3
          clear hb_
          rw [HDUE.out]
          generalize a0.lv.ask a1 a2 0 a4 = qq at *
          have t5 : (qq == 0) = false := by simpa using hq
          clear hq
          go_wp2_with fail
          refine (awake_c _).mono ?_
          rintro e w23_ ⟨rfl, hb_⟩
          replace HB := Aside0.mk (bt HB.out hb_)
          replace HBX := Aside0.mk (blk_below HBX.out hb_)
          replace HRL := Aside0.mk (Kd.C_below HRL.out hb_)
          clear hb_
          go_wp2_with fail
          go_ret
          exact ⟨ret_bool rfl, HB.out⟩
        have HDUE : Aside0 (a0.lv.due a1 a2 0 a4 = 0) := ⟨(due_ok HC.out).trans hq⟩
        have HAT := Aside0.mk (at_of hq).1
        have HQ := Aside0.mk hq
        clear hq
        refine (lasked_c a0 a1 a2 0 a4 _ (HI.out.below HB.out)).mono ?_
        rintro e w24_ ⟨rfl, hb_⟩
        replace HB := Aside0.mk (bt HB.out hb_)
        replace HBX := Aside0.mk (blk_below HBX.out hb_)
        replace HRL := Aside0.mk (Kd.C_below HRL.out hb_)
        clear d0 d1 d2 d3
        clear hb_
        have d0 := (blk_cell HBX.out 0).trans rfl
        have d1 := (blk_cell HBX.out 1).trans rfl
        have d2 := (blk_cell HBX.out 2).trans rfl
        have d3 := (blk_cell HBX.out 3).trans rfl
        rw [HDUE.out]
        go_wp2_with fail
        refine (rbehind_c a0 a1 a2 0 a4 _ (HI.out.below HB.out) (Lv.ok_of HC.out) HAT.out).mono ?_
        rintro e w25_ ⟨rfl, hb_⟩
        replace HB := Aside0.mk (bt HB.out hb_)
        replace HBX := Aside0.mk (blk_below HBX.out hb_)
        replace HRL := Aside0.mk (Kd.C_below HRL.out hb_)
        clear d0 d1 d2 d3
        clear hb_
        have d0 := (blk_cell HBX.out 0).trans rfl
        have d1 := (blk_cell HBX.out 1).trans rfl
        have d2 := (blk_cell HBX.out 2).trans rfl
        have d3 := (blk_cell HBX.out 3).trans rfl
        obtain ⟨ae, e3, z0, z1, z2⟩ := at_T50 (Kd.C_below HI.out.r3 HB.out) a4 HAT.out.h0 (by have := HAT.out.h1; rwa [lv_len3] at this)
        clear z0 z1
        rw [e3] at d3
        have hh0 := HAT.out.h0
        have hh1 : a4 < a0.su.length := by have := HAT.out.h1; rwa [lv_len3] at this
        have HUP : Aside0 ((rd_T99 a0.lv.su a4).f2 = (rd_T50 a0.su a4).f2) := ⟨by rw [lv_su]; rfl⟩
        by_cases hu : (rd_T50 a0.su a4).f2 ≤ 0
        · have HM := Aside0.mk (mir_night HC.out HQ.out (by rw [HUP.out]; exact hu))
          rw [HM.out]
          generalize behB (rd_T85 a0.lv.st a1) (rd_T85 a0.lv.st a2) (rd_T99 a0.lv.su a4) = bb at *
          clear HM
          cases bb
          · go_wp2_with fail
            refine (awake_c _).mono ?_
            rintro e w26_ ⟨rfl, hb_⟩
            replace HB := Aside0.mk (bt HB.out hb_)
            replace HBX := Aside0.mk (blk_below HBX.out hb_)
            replace HRL := Aside0.mk (Kd.C_below HRL.out hb_)
            clear d0 d1 d2 d3
            clear hb_
            go_wp2_with fail
            go_ret
            exact ⟨ret_bool rfl, HB.out⟩
          · go_wp2_with fail
            refine (awake_c _).mono ?_
            rintro e w27_ ⟨rfl, hb_⟩
            replace HB := Aside0.mk (bt HB.out hb_)
            replace HBX := Aside0.mk (blk_below HBX.out hb_)
            replace HRL := Aside0.mk (Kd.C_below HRL.out hb_)
            clear d0 d1 d2 d3
            clear hb_
            go_wp2_with fail
            go_ret
            exact ⟨ret_bool rfl, HB.out⟩
        · have HM := Aside0.mk (mir_ok HC.out HQ.out (by rw [HUP.out]; exact hu))
          rw [HM.out]
          generalize behB (rd_T85 a0.lv.st a1) (rd_T85 a0.lv.st a2) (rd_T99 a0.lv.su a4) = bb at *
          clear HM
          cases bb
          · go_wp2_with fail
            refine (awake_c _).mono ?_
            rintro e w28_ ⟨rfl, hb_⟩
            replace HB := Aside0.mk (bt HB.out hb_)
            replace HBX := Aside0.mk (blk_below HBX.out hb_)
            replace HRL := Aside0.mk (Kd.C_below HRL.out hb_)
            clear d0 d1 d2 d3
            clear hb_
            go_wp2_with fail
            go_ret
            exact ⟨ret_bool rfl, HB.out⟩
          · go_wp2_with fail
            refine (awake_c _).mono ?_
            rintro e w29_ ⟨rfl, hb_⟩
            replace HB := Aside0.mk (bt HB.out hb_)
            replace HBX := Aside0.mk (blk_below HBX.out hb_)
            replace HRL := Aside0.mk (Kd.C_below HRL.out hb_)
            clear d0 d1 d2 d3
            clear hb_
            go_wp2_with fail
            go_ret
            exact ⟨ret_bool rfl, HB.out⟩
  go_wp2_with fail
  refine (in_c _ _ _ _).mono ?_
  rintro e wi2_ ⟨rfl, rfl⟩
  generalize hb2 : inB a4 0 ((a0.su.length : Int) - 1) = b2 at *
  have HB2 := Aside0.mk hb2
  clear hb2
  cases b2
  · have HO2 := Aside0.mk (reach_out (k := a3) (h := a4) (f := a1) HC.out (.inr (.inr (by rw [HIN.out.2.2]; exact HB2.out))))
    rw [HO2.out] at HRL
    rw [HO2.out]
    clear HO2
    go_wp2_with fail
    clear d0 d1 d2 d3
    go_loopg [16, 17] 1 (fun gg s16 s17 wr => s16 = .slice none 0 0 ∧ s17 = .int .i64 0 ∧ Aside0 (Below w.heap.size w wr) ∧ Aside0 (wr.heap[w.heap.size]? = some (.cells #[.slice a0.A0 a0.st.length a0.c0, .slice a0.A1 a0.ri.length a0.c1, .slice a0.A2 a0.ca.length a0.c2, .slice a0.A3 a0.su.length a0.c3] 27 (0, 0))) ∧ Aside0 (Kd.C (Kd.int .i64) wr Ar ([] : List Int).length []))
    case atStart => exact ⟨rfl, rfl, HB, HBX, HRL⟩
    case round =>
      clear HB HBX HRL
      obtain ⟨rfl, rfl, HB, HBX, HRL⟩ := hrel
      have d0 := (blk_cell HBX.out 0).trans rfl
      have d1 := (blk_cell HBX.out 1).trans rfl
      have d2 := (blk_cell HBX.out 2).trans rfl
      have d3 := (blk_cell HBX.out 3).trans rfl
      rcases Int.lt_or_le 0 (a0.st.length : Int) with hlt | hlt
      all_goals
        go_wp2_with fail
        refine (ints_c Ar none cr 0 [] [] _ HRL.out (Kd.C_nil _ _)).mono ?_
        rintro e w30_ ⟨rfl, hb_⟩
        replace HB := Aside0.mk (bt HB.out hb_)
        replace HBX := Aside0.mk (blk_below HBX.out hb_)
        replace HRL := Aside0.mk (Kd.C_below HRL.out hb_)
        clear d0 d1 d2 d3
        clear hb_
        have d0 := (blk_cell HBX.out 0).trans rfl
        have d1 := (blk_cell HBX.out 1).trans rfl
        have d2 := (blk_cell HBX.out 2).trans rfl
        have d3 := (blk_cell HBX.out 3).trans rfl
        have tb : (([] : List Int) == []) = true := rfl
        rw [tb]
        clear tb
        go_wp2_with fail
        by_cases hq : a0.lv.ask a1 a2 0 a4 = 0
        rotate_left
        · have HDUE : Aside0 (a0.lv.due a1 a2 0 a4 = a0.lv.ask a1 a2 0 a4) := ⟨due_ok HC.out⟩
          rw [mir_out HC.out hq]
          refine (lasked_c a0 a1 a2 0 a4 _ (HI.out.below HB.out)).mono ?_
          rintro e w31_ ⟨rfl, hb_⟩
          replace HB := Aside0.mk (bt HB.out hb_)
          replace HBX := Aside0.mk (blk_below HBX.out hb_)
          replace HRL := Aside0.mk (Kd.C_below HRL.out hb_)
          clear d0 d1 d2 d3
          clear hb_
          rw [HDUE.out]
          generalize a0.lv.ask a1 a2 0 a4 = qq at *
          have t5 : (qq == 0) = false := by simpa using hq
          clear hq
          go_wp2_with fail
          refine (awake_c _).mono ?_
          rintro e w32_ ⟨rfl, hb_⟩
          replace HB := Aside0.mk (bt HB.out hb_)
          replace HBX := Aside0.mk (blk_below HBX.out hb_)
          replace HRL := Aside0.mk (Kd.C_below HRL.out hb_)
          clear hb_
          go_wp2_with fail
          go_ret
          exact ⟨ret_bool rfl, HB.out⟩
        have HDUE : Aside0 (a0.lv.due a1 a2 0 a4 = 0) := ⟨(due_ok HC.out).trans hq⟩
        have HAT := Aside0.mk (at_of hq).1
        have HQ := Aside0.mk hq
        clear hq
        refine (lasked_c a0 a1 a2 0 a4 _ (HI.out.below HB.out)).mono ?_
        rintro e w33_ ⟨rfl, hb_⟩
        replace HB := Aside0.mk (bt HB.out hb_)
        replace HBX := Aside0.mk (blk_below HBX.out hb_)
        replace HRL := Aside0.mk (Kd.C_below HRL.out hb_)
        clear d0 d1 d2 d3
        clear hb_
        have d0 := (blk_cell HBX.out 0).trans rfl
        have d1 := (blk_cell HBX.out 1).trans rfl
        have d2 := (blk_cell HBX.out 2).trans rfl
        have d3 := (blk_cell HBX.out 3).trans rfl
        rw [HDUE.out]
        go_wp2_with fail
        refine (rbehind_c a0 a1 a2 0 a4 _ (HI.out.below HB.out) (Lv.ok_of HC.out) HAT.out).mono ?_
        rintro e w34_ ⟨rfl, hb_⟩
        replace HB := Aside0.mk (bt HB.out hb_)
        replace HBX := Aside0.mk (blk_below HBX.out hb_)
        replace HRL := Aside0.mk (Kd.C_below HRL.out hb_)
        clear d0 d1 d2 d3
        clear hb_
        have d0 := (blk_cell HBX.out 0).trans rfl
        have d1 := (blk_cell HBX.out 1).trans rfl
        have d2 := (blk_cell HBX.out 2).trans rfl
        have d3 := (blk_cell HBX.out 3).trans rfl
        obtain ⟨ae, e3, z0, z1, z2⟩ := at_T50 (Kd.C_below HI.out.r3 HB.out) a4 HAT.out.h0 (by have := HAT.out.h1; rwa [lv_len3] at this)
        clear z0 z1
        rw [e3] at d3
        have hh0 := HAT.out.h0
        have hh1 : a4 < a0.su.length := by have := HAT.out.h1; rwa [lv_len3] at this
        have HUP : Aside0 ((rd_T99 a0.lv.su a4).f2 = (rd_T50 a0.su a4).f2) := ⟨by rw [lv_su]; rfl⟩
        by_cases hu : (rd_T50 a0.su a4).f2 ≤ 0
        · have HM := Aside0.mk (mir_night HC.out HQ.out (by rw [HUP.out]; exact hu))
          rw [HM.out]
          generalize behB (rd_T85 a0.lv.st a1) (rd_T85 a0.lv.st a2) (rd_T99 a0.lv.su a4) = bb at *
          clear HM
          cases bb
          · go_wp2_with fail
            refine (awake_c _).mono ?_
            rintro e w35_ ⟨rfl, hb_⟩
            replace HB := Aside0.mk (bt HB.out hb_)
            replace HBX := Aside0.mk (blk_below HBX.out hb_)
            replace HRL := Aside0.mk (Kd.C_below HRL.out hb_)
            clear d0 d1 d2 d3
            clear hb_
            go_wp2_with fail
            go_ret
            exact ⟨ret_bool rfl, HB.out⟩
          · go_wp2_with fail
            refine (awake_c _).mono ?_
            rintro e w36_ ⟨rfl, hb_⟩
            replace HB := Aside0.mk (bt HB.out hb_)
            replace HBX := Aside0.mk (blk_below HBX.out hb_)
            replace HRL := Aside0.mk (Kd.C_below HRL.out hb_)
            clear d0 d1 d2 d3
            clear hb_
            go_wp2_with fail
            go_ret
            exact ⟨ret_bool rfl, HB.out⟩
        · have HM := Aside0.mk (mir_ok HC.out HQ.out (by rw [HUP.out]; exact hu))
          rw [HM.out]
          generalize behB (rd_T85 a0.lv.st a1) (rd_T85 a0.lv.st a2) (rd_T99 a0.lv.su a4) = bb at *
          clear HM
          cases bb
          · go_wp2_with fail
            refine (awake_c _).mono ?_
            rintro e w37_ ⟨rfl, hb_⟩
            replace HB := Aside0.mk (bt HB.out hb_)
            replace HBX := Aside0.mk (blk_below HBX.out hb_)
            replace HRL := Aside0.mk (Kd.C_below HRL.out hb_)
            clear d0 d1 d2 d3
            clear hb_
            go_wp2_with fail
            go_ret
            exact ⟨ret_bool rfl, HB.out⟩
          · go_wp2_with fail
            refine (awake_c _).mono ?_
            rintro e w38_ ⟨rfl, hb_⟩
            replace HB := Aside0.mk (bt HB.out hb_)
            replace HBX := Aside0.mk (blk_below HBX.out hb_)
            replace HRL := Aside0.mk (Kd.C_below HRL.out hb_)
            clear d0 d1 d2 d3
            clear hb_
            go_wp2_with fail
            go_ret
            exact ⟨ret_bool rfl, HB.out⟩
  have HO2 := Aside0.mk (reach_ok HC.out (by rw [HIN.out.1]; exact HB0.out) (by rw [HIN.out.2.1]; exact HB1.out) (by rw [HIN.out.2.2]; exact HB2.out))
  rw [HO2.out] at HRL
  rw [HO2.out]
  clear HO2
  go_wp2_with fail
  have ls6 := (Lv.ok_of HC.out).st6
  rw [lv_len0] at ls6 HRL
  rw [lv_len0]
  clear d0 d1 d2 d3
  go_loopg [16, 17] a0.st.length (fun gg s16 s17 wr => ∃ i : Int, s17 = .int .i64 i ∧ 0 ≤ i ∧ i ≤ (a0.st.length : Int) ∧ (a0.st.length : Int) - i ≤ (gg : Int) ∧ Aside0 (Below w8_.heap.size w8_ wr) ∧ Aside0 (Kd.R (Kd.int .i64) 3 wr w8_.heap.size (fun _ => True) s16 (filK (fun t => canF a0.lv a1 t a3 a4) i.toNat)))
  case atStart => exact ⟨0, rfl, by omega, by omega, by omega, ⟨Below.refl _ _⟩, ⟨Kd.R_nil _ _ _ _ _⟩⟩
  case round =>
    obtain ⟨i, rfl, h0, h1, hg, BC, BR⟩ := hrel
    replace HB := Aside0.mk (bt HB.out BC.out)
    replace HBX := Aside0.mk (blk_below HBX.out BC.out)
    replace HRL := Aside0.mk (Kd.C_below HRL.out BC.out)
    have d0 := (blk_cell HBX.out 0).trans rfl
    have d1 := (blk_cell HBX.out 1).trans rfl
    have d2 := (blk_cell HBX.out 2).trans rfl
    have d3 := (blk_cell HBX.out 3).trans rfl
    by_cases hlt : i < (a0.st.length : Int)
    · have HAT : Aside0 (a0.lv.At a1 i a3 a4) := ⟨at_in HC.out (by rw [HIN.out.1]; exact HB0.out) (by rw [HIN.out.2.1]; exact HB1.out) (by rw [HIN.out.2.2]; exact HB2.out) h0 (by rw [lv_len0]; exact hlt)⟩
      have hln := filK_len (fun t => canF a0.lv a1 t a3 a4) i.toNat
      have HN := Aside0.mk (filK_succ (fun t => canF a0.lv a1 t a3 a4) i.toNat)
      have ei : ((i.toNat : Nat) : Int) = i := Int.toNat_of_nonneg h0
      rw [ei] at HN
      have HS1 : Aside0 ((i + 1).toNat = i.toNat + 1) := ⟨by omega⟩
      clear ei
      go_wp2_with fail
      refine (rcan_c a0 a1 i a3 a4 _ (HI.out.below HB.out) (Lv.ok_of HC.out) (Lv.mir_of HC.out) HAT.out).mono ?_
      rintro e wc_ ⟨rfl, hb_⟩
      have BC1 := Aside0.mk (bt BC.out hb_)
      have BR1 := Aside0.mk (Kd.R_below BR.out hb_)
      clear hb_ d0 d1 d2 d3 BC BR HB HBX HRL HAT
      have HN2 : Aside0 (filK (fun t => canF a0.lv a1 t a3 a4) (i.toNat + 1) = if canF a0.lv a1 i a3 a4 = true then filK (fun t => canF a0.lv a1 t a3 a4) i.toNat ++ [i] else filK (fun t => canF a0.lv a1 t a3 a4) i.toNat) := ⟨HN.out⟩
      clear HN
      generalize hcv : canF a0.lv a1 i a3 a4 = cv at *
      have HCV := Aside0.mk hcv
      clear hcv
      cases cv
      · go_wp2_with fail
        go_roundg (a0.st.length - (i + 1).toNat)
        case measure => omega
        case rel => exact ⟨i + 1, by first | rfl | go_num, by omega, by omega, by omega, BC1, ⟨by rw [HS1.out, HN2.out]; exact BR1.out⟩⟩
      · go_wp2_with (first | ((with_reducible refine gate_builtin (b := .append) (xs := #[.tmp 89, .tmp 91]) rfl ?_); at_builtin; refine Kd.R_append (Kd.int .i64) (w0 := w8_) w8_.heap.size rfl (.tmp 89) (.tmp 91) 30 3 (.int .i64 0) 8 rfl Try.underlying30 info3 rfl (by decide) (by omega) _ (filK (fun t => canF a0.lv a1 t a3 a4) i.toNat) i [.int .i64 i] (fun _ => True) (fun _ => False) rfl rfl ?aP (fun _ hk => hk.elim) ?aF ?aO ?aB ?aS ?aL ?_; (case aP => exact rfl); (case aB => exact BC1.out); (case aF => exact (fun _ _ => trivial)); (case aO => exact BR1.out); (case aS => exact below_size BC1.out); (case aL => omega); intro v3 w4 ho hb hg4 hat; have BC2 := Aside0.mk hb; have BR2 := Aside0.mk ho; clear ho hb hg4 hat BC1 BR1))
        go_roundg (a0.st.length - (i + 1).toNat)
        case measure => omega
        case rel => exact ⟨i + 1, by first | rfl | go_num, by omega, by omega, by omega, BC2, ⟨by rw [HS1.out, HN2.out]; exact BR2.out⟩⟩
    · obtain rfl : i = (a0.st.length : Int) := by omega
      obtain ⟨Aq, cq, rfl, _, hC⟩ := Kd.R_reads BR.out
      rw [Int.toNat_natCast] at hC ⊢
      have HQL := Aside0.mk hC
      clear hC BC BR
      generalize filK (fun t => canF a0.lv a1 t a3 a4) a0.st.length = rl at *
      have tb : (rl == rl) = true := by simp
      have lrl := HRL.out.2.1
      go_wp2_with fail
      refine (ints_c Ar Aq cr cq rl rl _ HRL.out HQL.out).mono ?_
      rintro e w39_ ⟨rfl, hb_⟩
      replace HB := Aside0.mk (bt HB.out hb_)
      replace HBX := Aside0.mk (blk_below HBX.out hb_)
      replace HRL := Aside0.mk (Kd.C_below HRL.out hb_)
      clear d0 d1 d2 d3
      clear hb_
      have d0 := (blk_cell HBX.out 0).trans rfl
      have d1 := (blk_cell HBX.out 1).trans rfl
      have d2 := (blk_cell HBX.out 2).trans rfl
      have d3 := (blk_cell HBX.out 3).trans rfl
      clear HQL
      rw [tb]
      clear tb
      go_wp2_with fail
      by_cases hq : a0.lv.ask a1 a2 0 a4 = 0
      rotate_left
      · have HDUE : Aside0 (a0.lv.due a1 a2 0 a4 = a0.lv.ask a1 a2 0 a4) := ⟨due_ok HC.out⟩
        rw [mir_out HC.out hq]
        refine (lasked_c a0 a1 a2 0 a4 _ (HI.out.below HB.out)).mono ?_
        rintro e w40_ ⟨rfl, hb_⟩
        replace HB := Aside0.mk (bt HB.out hb_)
        replace HBX := Aside0.mk (blk_below HBX.out hb_)
        replace HRL := Aside0.mk (Kd.C_below HRL.out hb_)
        clear d0 d1 d2 d3
        clear hb_
        rw [HDUE.out]
        generalize a0.lv.ask a1 a2 0 a4 = qq at *
        have t5 : (qq == 0) = false := by simpa using hq
        clear hq
        go_wp2_with fail
        refine (awake_c _).mono ?_
        rintro e w41_ ⟨rfl, hb_⟩
        replace HB := Aside0.mk (bt HB.out hb_)
        replace HBX := Aside0.mk (blk_below HBX.out hb_)
        replace HRL := Aside0.mk (Kd.C_below HRL.out hb_)
        clear hb_
        go_wp2_with fail
        go_ret
        exact ⟨ret_bool rfl, HB.out⟩
      have HDUE : Aside0 (a0.lv.due a1 a2 0 a4 = 0) := ⟨(due_ok HC.out).trans hq⟩
      have HAT := Aside0.mk (at_of hq).1
      have HQ := Aside0.mk hq
      clear hq
      refine (lasked_c a0 a1 a2 0 a4 _ (HI.out.below HB.out)).mono ?_
      rintro e w42_ ⟨rfl, hb_⟩
      replace HB := Aside0.mk (bt HB.out hb_)
      replace HBX := Aside0.mk (blk_below HBX.out hb_)
      replace HRL := Aside0.mk (Kd.C_below HRL.out hb_)
      clear d0 d1 d2 d3
      clear hb_
      have d0 := (blk_cell HBX.out 0).trans rfl
      have d1 := (blk_cell HBX.out 1).trans rfl
      have d2 := (blk_cell HBX.out 2).trans rfl
      have d3 := (blk_cell HBX.out 3).trans rfl
      rw [HDUE.out]
      go_wp2_with fail
      refine (rbehind_c a0 a1 a2 0 a4 _ (HI.out.below HB.out) (Lv.ok_of HC.out) HAT.out).mono ?_
      rintro e w43_ ⟨rfl, hb_⟩
      replace HB := Aside0.mk (bt HB.out hb_)
      replace HBX := Aside0.mk (blk_below HBX.out hb_)
      replace HRL := Aside0.mk (Kd.C_below HRL.out hb_)
      clear d0 d1 d2 d3
      clear hb_
      have d0 := (blk_cell HBX.out 0).trans rfl
      have d1 := (blk_cell HBX.out 1).trans rfl
      have d2 := (blk_cell HBX.out 2).trans rfl
      have d3 := (blk_cell HBX.out 3).trans rfl
      obtain ⟨ae, e3, z0, z1, z2⟩ := at_T50 (Kd.C_below HI.out.r3 HB.out) a4 HAT.out.h0 (by have := HAT.out.h1; rwa [lv_len3] at this)
      clear z0 z1
      rw [e3] at d3
      have hh0 := HAT.out.h0
      have hh1 : a4 < a0.su.length := by have := HAT.out.h1; rwa [lv_len3] at this
      have HUP : Aside0 ((rd_T99 a0.lv.su a4).f2 = (rd_T50 a0.su a4).f2) := ⟨by rw [lv_su]; rfl⟩
      by_cases hu : (rd_T50 a0.su a4).f2 ≤ 0
      · have HM := Aside0.mk (mir_night HC.out HQ.out (by rw [HUP.out]; exact hu))
        rw [HM.out]
        generalize behB (rd_T85 a0.lv.st a1) (rd_T85 a0.lv.st a2) (rd_T99 a0.lv.su a4) = bb at *
        clear HM
        cases bb
        · go_wp2_with fail
          refine (awake_c _).mono ?_
          rintro e w44_ ⟨rfl, hb_⟩
          replace HB := Aside0.mk (bt HB.out hb_)
          replace HBX := Aside0.mk (blk_below HBX.out hb_)
          replace HRL := Aside0.mk (Kd.C_below HRL.out hb_)
          clear d0 d1 d2 d3
          clear hb_
          go_wp2_with fail
          go_ret
          exact ⟨ret_bool rfl, HB.out⟩
        · go_wp2_with fail
          refine (awake_c _).mono ?_
          rintro e w45_ ⟨rfl, hb_⟩
          replace HB := Aside0.mk (bt HB.out hb_)
          replace HBX := Aside0.mk (blk_below HBX.out hb_)
          replace HRL := Aside0.mk (Kd.C_below HRL.out hb_)
          clear d0 d1 d2 d3
          clear hb_
          go_wp2_with fail
          go_ret
          exact ⟨ret_bool rfl, HB.out⟩
      · have HM := Aside0.mk (mir_ok HC.out HQ.out (by rw [HUP.out]; exact hu))
        rw [HM.out]
        generalize behB (rd_T85 a0.lv.st a1) (rd_T85 a0.lv.st a2) (rd_T99 a0.lv.su a4) = bb at *
        clear HM
        cases bb
        · go_wp2_with fail
          refine (awake_c _).mono ?_
          rintro e w46_ ⟨rfl, hb_⟩
          replace HB := Aside0.mk (bt HB.out hb_)
          replace HBX := Aside0.mk (blk_below HBX.out hb_)
          replace HRL := Aside0.mk (Kd.C_below HRL.out hb_)
          clear d0 d1 d2 d3
          clear hb_
          go_wp2_with fail
          go_ret
          exact ⟨ret_bool rfl, HB.out⟩
        · go_wp2_with fail
          refine (awake_c _).mono ?_
          rintro e w47_ ⟨rfl, hb_⟩
          replace HB := Aside0.mk (bt HB.out hb_)
          replace HBX := Aside0.mk (blk_below HBX.out hb_)
          replace HRL := Aside0.mk (Kd.C_below HRL.out hb_)
          clear d0 d1 d2 d3
          clear hb_
          go_wp2_with fail
          go_ret
          exact ⟨ret_bool rfl, HB.out⟩
end Go.Proofs.Ytkbdphjnpieceaa.G
