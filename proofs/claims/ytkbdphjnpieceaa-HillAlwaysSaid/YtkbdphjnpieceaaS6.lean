/- HillAlways: the walk. -/
import Derived.Test.YtkbdphjnpieceaaL10
namespace Go.Proofs.Ytkbdphjnpieceaa.G
open Go.RowKit Go.Proofs.YtkbdphjnpieceaaW.PrintWords Go.Proofs.YtkbdphjnpieceaaW.PrintLast Go.Proofs.YtkbdphjnpieceaaW.PrintMore
set_option linter.unusedVariables false
set_option linter.unusedSimpArgs false
set_option maxHeartbeats 8000000 in
set_option maxRecDepth 100000 in
theorem hillAlways_c (a0 : Rv) (a1 : Int) (a2 : Int) (w : World) (h0 : a0.In w) (h1 : (Lit.int .u8 a1).wf = true) (h2 : (Lit.int .u8 a2).wf = true) :
    Calls Try.prog 10 #[.agg a0.cells, .int .u8 a1, .int .u8 a2] w fun e w' => e = .returned (.bool true) ∧ Below w.heap.size w w' := by
  have HI := Aside0.mk h0
  have HB := Aside0.mk (b1 w (.cells a0.cells 27))
  have HBX := Aside0.mk (blk_new w (.cells a0.cells 27))
  have l0 := h0.r0.2.1
  have l1 := h0.r1.2.1
  have l2 := h0.r2.2.1
  have l3 := h0.r3.2.1
  clear h0
  simp only [Rv.cells] at *
  by_cases hth : a0.rdy = true
  rotate_left
  · have HT : Aside0 (a0.rdy = false) := ⟨by simpa using hth⟩
    clear hth
    go_enter Try.func10, Try.ntmps10
    have d0 := (blk_cell HBX.out 0).trans rfl
    have d1 := (blk_cell HBX.out 1).trans rfl
    have d2 := (blk_cell HBX.out 2).trans rfl
    have d3 := (blk_cell HBX.out 3).trans rfl
    go_wp2_with fail
    refine (ready_c a0 _ (HI.out.below HB.out)).mono ?_
    rintro e w1_ ⟨rfl, hb_⟩
    replace HB := Aside0.mk (bt HB.out hb_)
    replace HBX := Aside0.mk (blk_below HBX.out hb_)
    clear d0 d1 d2 d3
    clear hb_
    have d0 := (blk_cell HBX.out 0).trans rfl
    have d1 := (blk_cell HBX.out 1).trans rfl
    have d2 := (blk_cell HBX.out 2).trans rfl
    have d3 := (blk_cell HBX.out 3).trans rfl
    rw [HT.out]
    go_wp2_with fail
    refine (awake_c _).mono ?_
    rintro e w2_ ⟨rfl, hb_⟩
    replace HB := Aside0.mk (bt HB.out hb_)
    replace HBX := Aside0.mk (blk_below HBX.out hb_)
    clear d0 d1 d2 d3
    clear hb_
    go_wp2_with fail
    go_ret
    exact ⟨ret_bool rfl, HB.out⟩
  have HT := Aside0.mk hth
  have HF := Aside0.mk (rdy_of hth).1
  have HC := Aside0.mk (rdy_of hth).2.1
  have HLEN := Aside0.mk (rdy_of hth).2.2
  clear hth
  obtain ⟨hs2, hs6, hr6, hc1, hc4, hu1, hu12⟩ := HLEN.out
  go_enter Try.func10, Try.ntmps10
  have d0 := (blk_cell HBX.out 0).trans rfl
  have d1 := (blk_cell HBX.out 1).trans rfl
  have d2 := (blk_cell HBX.out 2).trans rfl
  have d3 := (blk_cell HBX.out 3).trans rfl
  go_wp2_with fail
  refine (ready_c a0 _ (HI.out.below HB.out)).mono ?_
  rintro e w3_ ⟨rfl, hb_⟩
  replace HB := Aside0.mk (bt HB.out hb_)
  replace HBX := Aside0.mk (blk_below HBX.out hb_)
  clear d0 d1 d2 d3
  clear hb_
  have d0 := (blk_cell HBX.out 0).trans rfl
  have d1 := (blk_cell HBX.out 1).trans rfl
  have d2 := (blk_cell HBX.out 2).trans rfl
  have d3 := (blk_cell HBX.out 3).trans rfl
  rw [HT.out]
  go_wp2_with fail
  have q2 := u8_bd h2
  refine (pair_c a0 a1 _ hs2 (by omega) h1).mono ?_
  rintro e w4_ ⟨rfl, hb_⟩
  replace HB := Aside0.mk (bt HB.out hb_)
  replace HBX := Aside0.mk (blk_below HBX.out hb_)
  clear d0 d1 d2 d3
  clear hb_
  have d0 := (blk_cell HBX.out 0).trans rfl
  have d1 := (blk_cell HBX.out 1).trans rfl
  have d2 := (blk_cell HBX.out 2).trans rfl
  have d3 := (blk_cell HBX.out 3).trans rfl
  have HP := Aside0.mk (pair_bd (n := (a0.st.length : Int)) (q := a1) (by omega) (u8_bd h1).1)
  generalize pairA a0.st.length a1 = pa at *
  generalize pairB a0.st.length a1 = pb at *
  go_wp2_with fail
  have HH := Aside0.mk (mod_bd (q := a2) hu1)
  generalize a2 % (a0.su.length : Int) = ch at *
  clear q2
  have hk0 : 0 ≤ (0 : Int) ∧ (0 : Int) < a0.ca.length := ⟨Int.le_refl 0, by omega⟩
  have HA00 := Aside0.mk (ask_mk (at_pair HP.out.1 HP.out.2.1 hk0 ⟨Int.le_refl 0, by have := HH.out; omega⟩) HP.out.2.2)
  have HA0H := Aside0.mk (ask_mk (at_pair HP.out.1 HP.out.2.1 hk0 HH.out) HP.out.2.2)
  clear hk0
  refine (lland_c a0 _ (HI.out.below HB.out) HF.out).mono ?_
  rintro e w5_ ⟨L, rfl, hO, hL, hb_⟩
  replace HB := Aside0.mk (bt HB.out hb_)
  replace HBX := Aside0.mk (blk_below HBX.out hb_)
  clear d0 d1 d2 d3
  clear hb_
  have d0 := (blk_cell HBX.out 0).trans rfl
  have d1 := (blk_cell HBX.out 1).trans rfl
  have d2 := (blk_cell HBX.out 2).trans rfl
  have d3 := (blk_cell HBX.out 3).trans rfl
  have HO := Aside0.mk hO
  have HL := Aside0.mk hL
  clear hO hL
  go_wp2_with fail
  refine (of_always HO.out HL.out pa pb).mono ?_
  rintro e w6_ ⟨Aa, ca_, rfl, hY, hb_⟩
  replace HB := Aside0.mk (bt HB.out hb_)
  replace HBX := Aside0.mk (blk_below HBX.out hb_)
  clear d0 d1 d2 d3
  clear hb_
  have d0 := (blk_cell HBX.out 0).trans rfl
  have d1 := (blk_cell HBX.out 1).trans rfl
  have d2 := (blk_cell HBX.out 2).trans rfl
  have d3 := (blk_cell HBX.out 3).trans rfl
  have HE := Aside0.mk (always_list HC.out HA00.out)
  rw [HE.out] at hY
  rw [HE.out]
  have ln3 := lv_len3 a0
  rw [ln3] at hY
  rw [ln3]
  have HY := Aside0.mk hY
  clear hY HE HO HL ln3
  generalize hyl : filK (fun h => allK (fun c => canF a0.lv pa pb c h) a0.lv.ca.length) a0.su.length = ys at *
  have HYL := Aside0.mk hyl
  clear hyl
  have ly := HY.out.2.1
  go_wp2_with fail
  refine (lland_c a0 _ (HI.out.below HB.out) HF.out).mono ?_
  rintro e w7_ ⟨L, rfl, hO, hL, hb_⟩
  replace HB := Aside0.mk (bt HB.out hb_)
  replace HBX := Aside0.mk (blk_below HBX.out hb_)
  replace HY := Aside0.mk (Kd.C_below HY.out hb_)
  clear d0 d1 d2 d3
  clear hb_
  have d0 := (blk_cell HBX.out 0).trans rfl
  have d1 := (blk_cell HBX.out 1).trans rfl
  have d2 := (blk_cell HBX.out 2).trans rfl
  have d3 := (blk_cell HBX.out 3).trans rfl
  have HO := Aside0.mk hO
  have HL := Aside0.mk hL
  clear hO hL
  go_wp2_with fail
  refine (of_stick HO.out HL.out pa pb ch).mono ?_
  rintro e w8_ ⟨rfl, hb_⟩
  replace HB := Aside0.mk (bt HB.out hb_)
  replace HBX := Aside0.mk (blk_below HBX.out hb_)
  replace HY := Aside0.mk (Kd.C_below HY.out hb_)
  clear d0 d1 d2 d3
  clear hb_
  have d0 := (blk_cell HBX.out 0).trans rfl
  have d1 := (blk_cell HBX.out 1).trans rfl
  have d2 := (blk_cell HBX.out 2).trans rfl
  have d3 := (blk_cell HBX.out 3).trans rfl
  clear HO HL
  have HSP := Aside0.mk (stick_spec (L := a0.lv) (f := pa) (t := pb) (h := ch))
  have HSA := Aside0.mk (stick_all (L := a0.lv) (f := pa) (t := pb) (h := ch))
  have HLN := Aside0.mk (And.intro (lv_len2 a0) (lv_len3 a0))
  have hh0 := HH.out.1
  have hh1 := HH.out.2
  have lca : a0.ca.length ≤ 4 := hc4
  by_cases hst : stickF a0.lv pa pb ch = a0.lv.ca.length
  · have HE2 := Aside0.mk (stick_none HC.out HA0H.out hst)
    rw [HE2.out]
    go_wp2_with fail
    have HWT : Aside0 (withinB [ch] ys = true) := ⟨by rw [← HYL.out, within_one hh0 hh1]; exact HSA.out.1 hst⟩
    have hl : Kd.C (Kd.int .i64) (w8_.alloc (.cells #[.int .i64 ch] 3)) (some ⟨w8_.heap.size, 0, none⟩) 1 [ch] := C_flat (α := Int) (d := Kd.int .i64) (blk_new w8_ _) (fun n => [.int .i64 n]) (by show 1 ≤ _; omega) rfl (fun _ => rfl)
    have hbn := b1 w8_ (.cells #[.int .i64 ch] 3)
    refine (within_l (some ⟨w8_.heap.size, 0, none⟩) Aa 1 ca_ [ch] ys _ hl (Kd.C_below HY.out hbn)).mono ?_
    rintro e w9_ ⟨rfl, hb_⟩
    have hb_ := bt hbn hb_
    replace HB := Aside0.mk (bt HB.out hb_)
    replace HBX := Aside0.mk (blk_below HBX.out hb_)
    replace HY := Aside0.mk (Kd.C_below HY.out hb_)
    clear d0 d1 d2 d3
    clear hb_ hbn hl
    rw [HWT.out]
    have d0 := (blk_cell HBX.out 0).trans rfl
    have d1 := (blk_cell HBX.out 1).trans rfl
    have d2 := (blk_cell HBX.out 2).trans rfl
    have d3 := (blk_cell HBX.out 3).trans rfl
    go_wp2_with fail
    clear d0 d1 d2 d3
    go_loopg [14] a0.ca.length (fun gg s14 wr => ∃ c : Int, s14 = .int .i64 c ∧ 0 ≤ c ∧ c ≤ (a0.ca.length : Int) ∧ (a0.ca.length : Int) - c ≤ (gg : Int) ∧ Aside0 (Below w.heap.size w wr) ∧ Aside0 (wr.heap[w.heap.size]? = some (.cells #[.slice a0.A0 a0.st.length a0.c0, .slice a0.A1 a0.ri.length a0.c1, .slice a0.A2 a0.ca.length a0.c2, .slice a0.A3 a0.su.length a0.c3] 27 (0, 0))) ∧ Aside0 (Kd.C (Kd.int .i64) wr Aa ys.length ys))
    case atStart => exact ⟨0, rfl, by omega, by omega, by omega, HB, HBX, HY⟩
    case round =>
      clear HB HBX HY
      obtain ⟨c, rfl, k0, k1, hgk, HB, HBX, HY⟩ := hrel
      have d0 := (blk_cell HBX.out 0).trans rfl
      have d1 := (blk_cell HBX.out 1).trans rfl
      have d2 := (blk_cell HBX.out 2).trans rfl
      have d3 := (blk_cell HBX.out 3).trans rfl
      by_cases hkt : c < (a0.ca.length : Int)
      · have HQC := Aside0.mk (ask_mk (at_pair HP.out.1 HP.out.2.1 ⟨k0, hkt⟩ ⟨Int.le_refl (0 : Int), by have := HH.out; omega⟩) HP.out.2.2)
        go_wp2_with fail
        refine (lland_c a0 _ (HI.out.below HB.out) HF.out).mono ?_
        rintro e w10_ ⟨L, rfl, hO, hL, hb_⟩
        replace HB := Aside0.mk (bt HB.out hb_)
        replace HBX := Aside0.mk (blk_below HBX.out hb_)
        replace HY := Aside0.mk (Kd.C_below HY.out hb_)
        clear d0 d1 d2 d3
        clear hb_
        have d0 := (blk_cell HBX.out 0).trans rfl
        have d1 := (blk_cell HBX.out 1).trans rfl
        have d2 := (blk_cell HBX.out 2).trans rfl
        have d3 := (blk_cell HBX.out 3).trans rfl
        have HO := Aside0.mk hO
        have HL := Aside0.mk hL
        clear hO hL
        go_wp2_with fail
        refine (of_hours HO.out HL.out pa pb c).mono ?_
        rintro e w11_ ⟨Ah, chh, rfl, hX, hb_⟩
        replace HB := Aside0.mk (bt HB.out hb_)
        replace HBX := Aside0.mk (blk_below HBX.out hb_)
        replace HY := Aside0.mk (Kd.C_below HY.out hb_)
        clear d0 d1 d2 d3
        clear hb_
        have d0 := (blk_cell HBX.out 0).trans rfl
        have d1 := (blk_cell HBX.out 1).trans rfl
        have d2 := (blk_cell HBX.out 2).trans rfl
        have d3 := (blk_cell HBX.out 3).trans rfl
        have HE := Aside0.mk (hours_ok HC.out HQC.out)
        rw [HE.out] at hX
        rw [HE.out]
        have ln3 := HLN.out.2
        rw [ln3] at hX
        rw [ln3]
        have HX := Aside0.mk hX
        clear hX HE HO HL ln3
        have HWA : Aside0 (withinB ys (filK (fun h => canF a0.lv pa pb c h) a0.su.length) = true) := ⟨by rw [← HYL.out]; exact within_fil fun i _ _ hp => allK_at hp k0 (by rw [HLN.out.1]; exact hkt)⟩
        have HWO : Aside0 (withinB [ch] (filK (fun h => canF a0.lv pa pb c h) a0.su.length) = canF a0.lv pa pb c ch) := ⟨within_one hh0 hh1⟩
        generalize filK (fun h => canF a0.lv pa pb c h) a0.su.length = hs at *
        have lhs := HX.out.2.1
        go_wp2_with fail
        refine (within_l Aa Ah ca_ chh ys hs _ HY.out HX.out).mono ?_
        rintro e w12_ ⟨rfl, hb_⟩
        replace HB := Aside0.mk (bt HB.out hb_)
        replace HBX := Aside0.mk (blk_below HBX.out hb_)
        replace HY := Aside0.mk (Kd.C_below HY.out hb_)
        replace HX := Aside0.mk (Kd.C_below HX.out hb_)
        clear d0 d1 d2 d3
        clear hb_
        rw [HWA.out]
        have d0 := (blk_cell HBX.out 0).trans rfl
        have d1 := (blk_cell HBX.out 1).trans rfl
        have d2 := (blk_cell HBX.out 2).trans rfl
        have d3 := (blk_cell HBX.out 3).trans rfl
        go_wp2_with fail
        have HCV : Aside0 (canF a0.lv pa pb c ch = true) := ⟨allK_at (HSA.out.1 hst) k0 (by rw [HLN.out.1]; exact hkt)⟩
        rw [HCV.out] at HWO
        have hl : Kd.C (Kd.int .i64) (w12_.alloc (.cells #[.int .i64 ch] 3)) (some ⟨w12_.heap.size, 0, none⟩) 1 [ch] := C_flat (α := Int) (d := Kd.int .i64) (blk_new w12_ _) (fun n => [.int .i64 n]) (by show 1 ≤ _; omega) rfl (fun _ => rfl)
        have hbn := b1 w12_ (.cells #[.int .i64 ch] 3)
        refine (within_l (some ⟨w12_.heap.size, 0, none⟩) Ah 1 chh [ch] hs _ hl (Kd.C_below HX.out hbn)).mono ?_
        rintro e w13_ ⟨rfl, hb_⟩
        have hb_ := bt hbn hb_
        replace HB := Aside0.mk (bt HB.out hb_)
        replace HBX := Aside0.mk (blk_below HBX.out hb_)
        replace HY := Aside0.mk (Kd.C_below HY.out hb_)
        replace HX := Aside0.mk (Kd.C_below HX.out hb_)
        clear d0 d1 d2 d3
        clear hb_ hbn hl
        rw [HWO.out]
        have d0 := (blk_cell HBX.out 0).trans rfl
        have d1 := (blk_cell HBX.out 1).trans rfl
        have d2 := (blk_cell HBX.out 2).trans rfl
        have d3 := (blk_cell HBX.out 3).trans rfl
        go_wp2_with fail
        go_roundg (a0.ca.length - (c + 1).toNat)
        case measure => omega
        case rel => exact ⟨c + 1, by first | rfl | go_num, by omega, by omega, by omega, HB, HBX, HY⟩
      · obtain rfl : c = (a0.ca.length : Int) := by omega
        go_wp2_with fail
        refine (awake_c _).mono ?_
        rintro e w10_ ⟨rfl, hb_⟩
        replace HB := Aside0.mk (bt HB.out hb_)
        replace HBX := Aside0.mk (blk_below HBX.out hb_)
        replace HY := Aside0.mk (Kd.C_below HY.out hb_)
        clear d0 d1 d2 d3
        clear hb_
        go_wp2_with fail
        go_ret
        exact ⟨ret_bool rfl, HB.out⟩
  have HE2 := Aside0.mk (stick_ok HC.out HA0H.out hst)
  rw [HE2.out]
  have hsb := HSP.out.1
  have HSK : Aside0 ((∀ j : Int, 0 ≤ j → j < stickF a0.lv pa pb ch → canF a0.lv pa pb j ch = true) ∧ canF a0.lv pa pb (stickF a0.lv pa pb ch) ch = false) := ⟨HSP.out.2.1, HSP.out.2.2 (by omega)⟩
  have HWT : Aside0 (withinB [ch] ys = false) := ⟨by rw [← HYL.out, within_one hh0 hh1]; cases hq : allK (fun c => canF a0.lv pa pb c ch) a0.lv.ca.length; rfl; exact absurd (HSA.out.2 hq) hst⟩
  have hs2' : stickF a0.lv pa pb ch < (a0.ca.length : Int) := by have := HLN.out.1; omega
  have hs1' := hsb.1
  clear hsb hst HSP HSA HE2
  generalize stickF a0.lv pa pb ch = sk at *
  go_wp2_with fail
  have hl : Kd.C (Kd.int .i64) (w8_.alloc (.cells #[.int .i64 ch] 3)) (some ⟨w8_.heap.size, 0, none⟩) 1 [ch] := C_flat (α := Int) (d := Kd.int .i64) (blk_new w8_ _) (fun n => [.int .i64 n]) (by show 1 ≤ _; omega) rfl (fun _ => rfl)
  have hbn := b1 w8_ (.cells #[.int .i64 ch] 3)
  refine (within_l (some ⟨w8_.heap.size, 0, none⟩) Aa 1 ca_ [ch] ys _ hl (Kd.C_below HY.out hbn)).mono ?_
  rintro e w9_ ⟨rfl, hb_⟩
  have hb_ := bt hbn hb_
  replace HB := Aside0.mk (bt HB.out hb_)
  replace HBX := Aside0.mk (blk_below HBX.out hb_)
  replace HY := Aside0.mk (Kd.C_below HY.out hb_)
  clear d0 d1 d2 d3
  clear hb_ hbn hl
  rw [HWT.out]
  have d0 := (blk_cell HBX.out 0).trans rfl
  have d1 := (blk_cell HBX.out 1).trans rfl
  have d2 := (blk_cell HBX.out 2).trans rfl
  have d3 := (blk_cell HBX.out 3).trans rfl
  go_wp2_with fail
  clear d0 d1 d2 d3
  go_loopg [14] a0.ca.length (fun gg s14 wr => ∃ c : Int, s14 = .int .i64 c ∧ 0 ≤ c ∧ c ≤ (a0.ca.length : Int) ∧ (a0.ca.length : Int) - c ≤ (gg : Int) ∧ Aside0 (Below w.heap.size w wr) ∧ Aside0 (wr.heap[w.heap.size]? = some (.cells #[.slice a0.A0 a0.st.length a0.c0, .slice a0.A1 a0.ri.length a0.c1, .slice a0.A2 a0.ca.length a0.c2, .slice a0.A3 a0.su.length a0.c3] 27 (0, 0))) ∧ Aside0 (Kd.C (Kd.int .i64) wr Aa ys.length ys))
  case atStart => exact ⟨0, rfl, by omega, by omega, by omega, HB, HBX, HY⟩
  case round =>
    clear HB HBX HY
    obtain ⟨c, rfl, k0, k1, hgk, HB, HBX, HY⟩ := hrel
    have d0 := (blk_cell HBX.out 0).trans rfl
    have d1 := (blk_cell HBX.out 1).trans rfl
    have d2 := (blk_cell HBX.out 2).trans rfl
    have d3 := (blk_cell HBX.out 3).trans rfl
    by_cases hkt : c < (a0.ca.length : Int)
    · have HQC := Aside0.mk (ask_mk (at_pair HP.out.1 HP.out.2.1 ⟨k0, hkt⟩ ⟨Int.le_refl (0 : Int), by have := HH.out; omega⟩) HP.out.2.2)
      go_wp2_with fail
      refine (lland_c a0 _ (HI.out.below HB.out) HF.out).mono ?_
      rintro e w10_ ⟨L, rfl, hO, hL, hb_⟩
      replace HB := Aside0.mk (bt HB.out hb_)
      replace HBX := Aside0.mk (blk_below HBX.out hb_)
      replace HY := Aside0.mk (Kd.C_below HY.out hb_)
      clear d0 d1 d2 d3
      clear hb_
      have d0 := (blk_cell HBX.out 0).trans rfl
      have d1 := (blk_cell HBX.out 1).trans rfl
      have d2 := (blk_cell HBX.out 2).trans rfl
      have d3 := (blk_cell HBX.out 3).trans rfl
      have HO := Aside0.mk hO
      have HL := Aside0.mk hL
      clear hO hL
      go_wp2_with fail
      refine (of_hours HO.out HL.out pa pb c).mono ?_
      rintro e w11_ ⟨Ah, chh, rfl, hX, hb_⟩
      replace HB := Aside0.mk (bt HB.out hb_)
      replace HBX := Aside0.mk (blk_below HBX.out hb_)
      replace HY := Aside0.mk (Kd.C_below HY.out hb_)
      clear d0 d1 d2 d3
      clear hb_
      have d0 := (blk_cell HBX.out 0).trans rfl
      have d1 := (blk_cell HBX.out 1).trans rfl
      have d2 := (blk_cell HBX.out 2).trans rfl
      have d3 := (blk_cell HBX.out 3).trans rfl
      have HE := Aside0.mk (hours_ok HC.out HQC.out)
      rw [HE.out] at hX
      rw [HE.out]
      have ln3 := HLN.out.2
      rw [ln3] at hX
      rw [ln3]
      have HX := Aside0.mk hX
      clear hX HE HO HL ln3
      have HWA : Aside0 (withinB ys (filK (fun h => canF a0.lv pa pb c h) a0.su.length) = true) := ⟨by rw [← HYL.out]; exact within_fil fun i _ _ hp => allK_at hp k0 (by rw [HLN.out.1]; exact hkt)⟩
      have HWO : Aside0 (withinB [ch] (filK (fun h => canF a0.lv pa pb c h) a0.su.length) = canF a0.lv pa pb c ch) := ⟨within_one hh0 hh1⟩
      generalize filK (fun h => canF a0.lv pa pb c h) a0.su.length = hs at *
      have lhs := HX.out.2.1
      go_wp2_with fail
      refine (within_l Aa Ah ca_ chh ys hs _ HY.out HX.out).mono ?_
      rintro e w12_ ⟨rfl, hb_⟩
      replace HB := Aside0.mk (bt HB.out hb_)
      replace HBX := Aside0.mk (blk_below HBX.out hb_)
      replace HY := Aside0.mk (Kd.C_below HY.out hb_)
      replace HX := Aside0.mk (Kd.C_below HX.out hb_)
      clear d0 d1 d2 d3
      clear hb_
      rw [HWA.out]
      have d0 := (blk_cell HBX.out 0).trans rfl
      have d1 := (blk_cell HBX.out 1).trans rfl
      have d2 := (blk_cell HBX.out 2).trans rfl
      have d3 := (blk_cell HBX.out 3).trans rfl
      go_wp2_with fail
      rcases Int.lt_trichotomy c sk with hck | hck | hck
      · have HCV : Aside0 (canF a0.lv pa pb c ch = true) := ⟨HSK.out.1 c k0 hck⟩
        rw [HCV.out] at HWO
        have t5 : (c == sk) = false := by simp; omega
        have hl : Kd.C (Kd.int .i64) (w12_.alloc (.cells #[.int .i64 ch] 3)) (some ⟨w12_.heap.size, 0, none⟩) 1 [ch] := C_flat (α := Int) (d := Kd.int .i64) (blk_new w12_ _) (fun n => [.int .i64 n]) (by show 1 ≤ _; omega) rfl (fun _ => rfl)
        have hbn := b1 w12_ (.cells #[.int .i64 ch] 3)
        refine (within_l (some ⟨w12_.heap.size, 0, none⟩) Ah 1 chh [ch] hs _ hl (Kd.C_below HX.out hbn)).mono ?_
        rintro e w13_ ⟨rfl, hb_⟩
        have hb_ := bt hbn hb_
        replace HB := Aside0.mk (bt HB.out hb_)
        replace HBX := Aside0.mk (blk_below HBX.out hb_)
        replace HY := Aside0.mk (Kd.C_below HY.out hb_)
        replace HX := Aside0.mk (Kd.C_below HX.out hb_)
        clear d0 d1 d2 d3
        clear hb_ hbn hl
        rw [HWO.out]
        have d0 := (blk_cell HBX.out 0).trans rfl
        have d1 := (blk_cell HBX.out 1).trans rfl
        have d2 := (blk_cell HBX.out 2).trans rfl
        have d3 := (blk_cell HBX.out 3).trans rfl
        go_wp2_with fail
        go_roundg (a0.ca.length - (c + 1).toNat)
        case measure => omega
        case rel => exact ⟨c + 1, by first | rfl | go_num, by omega, by omega, by omega, HB, HBX, HY⟩
      · have HCV : Aside0 (canF a0.lv pa pb c ch = false) := ⟨by rw [hck]; exact HSK.out.2⟩
        rw [HCV.out] at HWO
        have t5 : (c == sk) = true := by simpa using hck
        have t6 : ¬ c < sk := by omega
        clear hck
        have hl : Kd.C (Kd.int .i64) (w12_.alloc (.cells #[.int .i64 ch] 3)) (some ⟨w12_.heap.size, 0, none⟩) 1 [ch] := C_flat (α := Int) (d := Kd.int .i64) (blk_new w12_ _) (fun n => [.int .i64 n]) (by show 1 ≤ _; omega) rfl (fun _ => rfl)
        have hbn := b1 w12_ (.cells #[.int .i64 ch] 3)
        refine (within_l (some ⟨w12_.heap.size, 0, none⟩) Ah 1 chh [ch] hs _ hl (Kd.C_below HX.out hbn)).mono ?_
        rintro e w13_ ⟨rfl, hb_⟩
        have hb_ := bt hbn hb_
        replace HB := Aside0.mk (bt HB.out hb_)
        replace HBX := Aside0.mk (blk_below HBX.out hb_)
        replace HY := Aside0.mk (Kd.C_below HY.out hb_)
        replace HX := Aside0.mk (Kd.C_below HX.out hb_)
        clear d0 d1 d2 d3
        clear hb_ hbn hl
        rw [HWO.out]
        have d0 := (blk_cell HBX.out 0).trans rfl
        have d1 := (blk_cell HBX.out 1).trans rfl
        have d2 := (blk_cell HBX.out 2).trans rfl
        have d3 := (blk_cell HBX.out 3).trans rfl
        go_wp2_with fail
        go_roundg (a0.ca.length - (c + 1).toNat)
        case measure => omega
        case rel => exact ⟨c + 1, by first | rfl | go_num, by omega, by omega, by omega, HB, HBX, HY⟩
      · have HCV := Aside0.mk hck
        have t5 : (c == sk) = false := by simp; omega
        generalize canF a0.lv pa pb c ch = cv at *
        have hl : Kd.C (Kd.int .i64) (w12_.alloc (.cells #[.int .i64 ch] 3)) (some ⟨w12_.heap.size, 0, none⟩) 1 [ch] := C_flat (α := Int) (d := Kd.int .i64) (blk_new w12_ _) (fun n => [.int .i64 n]) (by show 1 ≤ _; omega) rfl (fun _ => rfl)
        have hbn := b1 w12_ (.cells #[.int .i64 ch] 3)
        refine (within_l (some ⟨w12_.heap.size, 0, none⟩) Ah 1 chh [ch] hs _ hl (Kd.C_below HX.out hbn)).mono ?_
        rintro e w13_ ⟨rfl, hb_⟩
        have hb_ := bt hbn hb_
        replace HB := Aside0.mk (bt HB.out hb_)
        replace HBX := Aside0.mk (blk_below HBX.out hb_)
        replace HY := Aside0.mk (Kd.C_below HY.out hb_)
        replace HX := Aside0.mk (Kd.C_below HX.out hb_)
        clear d0 d1 d2 d3
        clear hb_ hbn hl
        rw [HWO.out]
        have d0 := (blk_cell HBX.out 0).trans rfl
        have d1 := (blk_cell HBX.out 1).trans rfl
        have d2 := (blk_cell HBX.out 2).trans rfl
        have d3 := (blk_cell HBX.out 3).trans rfl
        go_wp2_with fail
        go_roundg (a0.ca.length - (c + 1).toNat)
        case measure => omega
        case rel => exact ⟨c + 1, by first | rfl | go_num, by omega, by omega, by omega, HB, HBX, HY⟩
    · obtain rfl : c = (a0.ca.length : Int) := by omega
      go_wp2_with fail
      refine (awake_c _).mono ?_
      rintro e w10_ ⟨rfl, hb_⟩
      replace HB := Aside0.mk (bt HB.out hb_)
      replace HBX := Aside0.mk (blk_below HBX.out hb_)
      replace HY := Aside0.mk (Kd.C_below HY.out hb_)
      clear d0 d1 d2 d3
      clear hb_
      go_wp2_with fail
      go_ret
      exact ⟨ret_bool rfl, HB.out⟩
end Go.Proofs.Ytkbdphjnpieceaa.G
