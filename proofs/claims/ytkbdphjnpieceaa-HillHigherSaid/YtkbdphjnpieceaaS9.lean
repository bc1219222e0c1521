/- HillHigher: the walk. -/
import Derived.Test.YtkbdphjnpieceaaC1
import Derived.Test.YtkbdphjnpieceaaP3
namespace Go.Proofs.Ytkbdphjnpieceaa.G
open Go.RowKit Go.Proofs.YtkbdphjnpieceaaW.PrintWords Go.Proofs.YtkbdphjnpieceaaW.PrintLast Go.Proofs.YtkbdphjnpieceaaW.PrintMore
set_option linter.unusedVariables false
set_option linter.unusedSimpArgs false
open Go.Sort (grow)
theorem Cp.drew {X : Rv} {g base : Nat} {W : World} (h : Cp X g base W) : Cp X g base W.drew := h.below (below_drew (Below.refl _ _))
theorem Up.again {R X Y : Rv} {a u n : Int} (h : Up R X a u) (h0 : 0 ≤ a) (h1 : a < R.st.length) (hs : Y.st = X.st.set a.toNat ⟨(rd_T65 X.st a).f0, (rd_T65 X.st a).f1, (rd_T65 R.st a).f2 + n, (rd_T65 X.st a).f3⟩) (hr : Y.ri = X.ri) (hc : Y.ca = X.ca) (hu : Y.su = X.su) : Up R Y a n := by
  have e : rd_T65 X.st a = ⟨(rd_T65 R.st a).f0, (rd_T65 R.st a).f1, (rd_T65 R.st a).f2 + u, (rd_T65 R.st a).f3⟩ := by rw [h.st]; unfold rd_T65; rw [getD_set_, if_pos ⟨rfl, by omega⟩]
  exact ⟨by rw [hs, e, h.st, List.set_set], hr.trans h.ri, hc.trans h.ca, hu.trans h.su⟩
set_option maxHeartbeats 8000000 in
set_option maxRecDepth 100000 in
theorem hillHigher_c (a0 : Rv) (a1 : Int) (a2 : Int) (w : World) (h0 : a0.In w) (h1 : (Lit.int .u8 a1).wf = true) (h2 : (Lit.int .u16 a2).wf = true) :
    Calls Try.prog 14 #[.agg a0.cells, .int .u8 a1, .int .u16 a2] w fun e w' => e = .returned (.bool true) ∧ Below w.heap.size w w' := by
  have HI := Aside0.mk h0
  have HB := Aside0.mk (b1 w (.cells a0.cells 27))
  have HBX := Aside0.mk (blk_new w (.cells a0.cells 27))
  have l0 := h0.r0.2.1
  have l1 := h0.r1.2.1
  have l2 := h0.r2.2.1
  have l3 := h0.r3.2.1
  clear h0
  simp only [Rv.cells] at *
  by_cases hth : a0.rdy = true
  rotate_left
  · have HT : Aside0 (a0.rdy = false) := ⟨by simpa using hth⟩
    clear hth
    go_enter Try.func14, Try.ntmps14
    have d0 := (blk_cell HBX.out 0).trans rfl
    have d1 := (blk_cell HBX.out 1).trans rfl
    have d2 := (blk_cell HBX.out 2).trans rfl
    have d3 := (blk_cell HBX.out 3).trans rfl
    go_wp2_with fail
    refine (ready_c a0 _ (HI.out.below HB.out)).mono ?_
    rintro e w1_ ⟨rfl, hb_⟩
    replace HB := Aside0.mk (bt HB.out hb_)
    replace HBX := Aside0.mk (blk_below HBX.out hb_)
    clear d0 d1 d2 d3
    clear hb_
    have d0 := (blk_cell HBX.out 0).trans rfl
    have d1 := (blk_cell HBX.out 1).trans rfl
    have d2 := (blk_cell HBX.out 2).trans rfl
    have d3 := (blk_cell HBX.out 3).trans rfl
    rw [HT.out]
    go_wp2_with fail
    refine (awake_c _).mono ?_
    rintro e w2_ ⟨rfl, hb_⟩
    replace HB := Aside0.mk (bt HB.out hb_)
    replace HBX := Aside0.mk (blk_below HBX.out hb_)
    clear d0 d1 d2 d3
    clear hb_
    go_wp2_with fail
    go_ret
    exact ⟨ret_bool rfl, HB.out⟩
  have HT := Aside0.mk hth
  have HF := Aside0.mk (rdy_of hth).1
  have HC := Aside0.mk (rdy_of hth).2.1
  have HLEN := Aside0.mk (rdy_of hth).2.2
  clear hth
  obtain ⟨hs2, hs6, hr6, hc1, hc4, hu1, hu12⟩ := HLEN.out
  go_enter Try.func14, Try.ntmps14
  have d0 := (blk_cell HBX.out 0).trans rfl
  have d1 := (blk_cell HBX.out 1).trans rfl
  have d2 := (blk_cell HBX.out 2).trans rfl
  have d3 := (blk_cell HBX.out 3).trans rfl
  go_wp2_with fail
  refine (ready_c a0 _ (HI.out.below HB.out)).mono ?_
  rintro e w3_ ⟨rfl, hb_⟩
  replace HB := Aside0.mk (bt HB.out hb_)
  replace HBX := Aside0.mk (blk_below HBX.out hb_)
  clear d0 d1 d2 d3
  clear hb_
  have d0 := (blk_cell HBX.out 0).trans rfl
  have d1 := (blk_cell HBX.out 1).trans rfl
  have d2 := (blk_cell HBX.out 2).trans rfl
  have d3 := (blk_cell HBX.out 3).trans rfl
  rw [HT.out]
  go_wp2_with fail
  have HCC := Aside0.mk (cases_few HC.out)
  have q2 := u16_bd h2
  refine (pair_c a0 a1 _ hs2 (by omega) h1).mono ?_
  rintro e w4_ ⟨rfl, hb_⟩
  replace HB := Aside0.mk (bt HB.out hb_)
  replace HBX := Aside0.mk (blk_below HBX.out hb_)
  clear d0 d1 d2 d3
  clear hb_
  have d0 := (blk_cell HBX.out 0).trans rfl
  have d1 := (blk_cell HBX.out 1).trans rfl
  have d2 := (blk_cell HBX.out 2).trans rfl
  have d3 := (blk_cell HBX.out 3).trans rfl
  have HP := Aside0.mk (pair_bd (n := (a0.st.length : Int)) (q := a1) (by omega) (u8_bd h1).1)
  generalize pairA a0.st.length a1 = pa at *
  generalize pairB a0.st.length a1 = pb at *
  go_wp2_with fail
  refine (copied_v a0 _ (HI.out.below HB.out) (by omega) (by omega) (by omega) HCC.out (by omega)).mono ?_
  rintro e w5_ ⟨B0, e0_, B1, e1_, B2, e2_, B3, e3_, rfl, hOw, hb_⟩
  have HOW := Aside0.mk (Own.lower hOw HB.out.size)
  replace HB := Aside0.mk (bt HB.out hb_)
  replace HBX := Aside0.mk (blk_below HBX.out hb_)
  clear d0 d1 d2 d3
  clear hOw hb_
  go_wp2_with (first | ((with_reducible refine gate_dst (N := 9) rfl ?_); refine box_event ?hg (N := 9) ?hd (cs := #[.slice none 0 0, .slice none 0 0, .slice none 0 0, .slice none 0 0]) (t := 27) ?hr ?_; (case hd => rfl); (case hg => rfl); (case hr => first | (go_simp; done) | (go_simp; rfl)); intro gx hg_ w6_ hbox_ hb_; have HGX := Aside0.mk (show w.heap.size < gx from by rw [hg_]; exact blk_lt HBX.out); replace HB := Aside0.mk (bt HB.out hb_); replace HBX := Aside0.mk (blk_below HBX.out hb_); replace HOW := Aside0.mk (HOW.out.below hb_); have HBZ := Aside0.mk hbox_; clear hbox_ hb_ hg_) | ((with_reducible refine gate_st (p := 9) rfl ?_); have c0 := (blk_cell (HBZ.out) 0).trans rfl; have f0 := blk_frozen (HBZ.out) 0; have c1 := (blk_cell (blk_set (HBZ.out) 0 (.slice B0 a0.st.length e0_)) 1).trans rfl; have f1 := blk_frozen (blk_set (HBZ.out) 0 (.slice B0 a0.st.length e0_)) 1; have c2 := (blk_cell (blk_set (blk_set (HBZ.out) 0 (.slice B0 a0.st.length e0_)) 1 (.slice B1 a0.ri.length e1_)) 2).trans rfl; have f2 := blk_frozen (blk_set (blk_set (HBZ.out) 0 (.slice B0 a0.st.length e0_)) 1 (.slice B1 a0.ri.length e1_)) 2; have c3 := (blk_cell (blk_set (blk_set (blk_set (HBZ.out) 0 (.slice B0 a0.st.length e0_)) 1 (.slice B1 a0.ri.length e1_)) 2 (.slice B2 a0.ca.length e2_)) 3).trans rfl; have f3 := blk_frozen (blk_set (blk_set (blk_set (HBZ.out) 0 (.slice B0 a0.st.length e0_)) 1 (.slice B1 a0.ri.length e1_)) 2 (.slice B2 a0.ca.length e2_)) 3; refine put_ev (p := 9) (w1 := ((((w6_.setCell ⟨gx, 0, none⟩ (.slice B0 a0.st.length e0_)).setCell ⟨gx, 1, none⟩ (.slice B1 a0.ri.length e1_)).setCell ⟨gx, 2, none⟩ (.slice B2 a0.ca.length e2_)).setCell ⟨gx, 3, none⟩ (.slice B3 a0.su.length e3_))) (fun x_ => Below w.heap.size w x_ ∧ x_.heap[w.heap.size]? = some (.cells #[.slice a0.A0 a0.st.length a0.c0, .slice a0.A1 a0.ri.length a0.c1, .slice a0.A2 a0.ca.length a0.c2, .slice a0.A3 a0.su.length a0.c3] 27 (0, 0)) ∧ Cp ⟨a0.st, a0.ri, a0.ca, a0.su, B0, B1, B2, B3, e0_, e1_, e2_, e3_⟩ gx w.heap.size x_) rfl rfl rfl ?hr ?hF ?_; (case hr => first | (go_simp; done) | (go_simp; rfl)); (case hF => exact ⟨below_set (below_set (below_set (below_set (HB.out) (Nat.le_of_lt HGX.out)) (Nat.le_of_lt HGX.out)) (Nat.le_of_lt HGX.out)) (Nat.le_of_lt HGX.out), blk_far (p := ⟨gx, 3, none⟩) (blk_far (p := ⟨gx, 2, none⟩) (blk_far (p := ⟨gx, 1, none⟩) (blk_far (p := ⟨gx, 0, none⟩) (HBX.out) (show _ ≠ gx from Nat.ne_of_lt HGX.out) _) (show _ ≠ gx from Nat.ne_of_lt HGX.out) _) (show _ ≠ gx from Nat.ne_of_lt HGX.out) _) (show _ ≠ gx from Nat.ne_of_lt HGX.out) _, ⟨blk_set (blk_set (blk_set (blk_set (HBZ.out) 0 (.slice B0 a0.st.length e0_)) 1 (.slice B1 a0.ri.length e1_)) 2 (.slice B2 a0.ca.length e2_)) 3 (.slice B3 a0.su.length e3_), Own.set27 (Own.set27 (Own.set27 (Own.set27 (HOW.out) (HBZ.out) 0 _) (blk_set (HBZ.out) 0 (.slice B0 a0.st.length e0_)) 1 _) (blk_set (blk_set (HBZ.out) 0 (.slice B0 a0.st.length e0_)) 1 (.slice B1 a0.ri.length e1_)) 2 _) (blk_set (blk_set (blk_set (HBZ.out) 0 (.slice B0 a0.st.length e0_)) 1 (.slice B1 a0.ri.length e1_)) 2 (.slice B2 a0.ca.length e2_)) 3 _, Nat.le_of_lt HGX.out⟩⟩); clear c0 f0 c1 f1 c2 f2 c3 f3 HOW HBZ HB HBX; rintro w7_ ⟨k0_, k1_, k2_⟩; have HB := Aside0.mk k0_; have HBX := Aside0.mk k1_; have CX := Aside0.mk k2_; clear k0_ k1_ k2_; have x0_ : w7_.cell? ⟨gx, 0, none⟩ = some (.slice B0 a0.st.length e0_) := blk_cell CX.out.box 0; obtain ⟨q, hq, hqb, hqc, hqf, hqs⟩ := CX.out.st pa HP.out.1.1 HP.out.1.2; have hq' : B0 = some ⟨q, 0, none⟩ := hq; have HNQ := Aside0.mk (Kd.R_ne CX.out.own.r0 HBX.out (by decide)); subst hq'; clear hq; have p0 := HP.out.1.1; have p1 := HP.out.1.2))
  have HZ := Aside0.mk (st_z HC.out HP.out.1.1 HP.out.1.2)
  have hz := HZ.out
  have c0 := hqc 2 _ rfl
  have f0 := hqf 2
  have hmod : 0 ≤ a2 % 300 ∧ a2 % 300 < 300 := ⟨Int.emod_nonneg _ (by decide), Int.emod_lt_of_pos _ (by decide)⟩
  have hw := wr64 (n := (rd_T65 a0.st pa).f2 + a2 % 300) (by omega) (by omega)
  go_upto_region 5 with (fail)
  go_cut [] (fun wx => Below w.heap.size w wx ∧ wx.heap[w.heap.size]? = some (.cells #[.slice a0.A0 a0.st.length a0.c0, .slice a0.A1 a0.ri.length a0.c1, .slice a0.A2 a0.ca.length a0.c2, .slice a0.A3 a0.su.length a0.c3] 27 (0, 0)) ∧ Cp ⟨a0.st.set pa.toNat ⟨(rd_T65 a0.st pa).f0, (rd_T65 a0.st pa).f1, (min 1000 ((rd_T65 a0.st pa).f2 + a2 % 300)), (rd_T65 a0.st pa).f3⟩, a0.ri, a0.ca, a0.su, (some ⟨q, 0, none⟩), B1, B2, B3, e0_, e1_, e2_, e3_⟩ gx w.heap.size wx)
  case first =>
    go_region
    all_goals go_wp2_with fail
    all_goals go_meet
    · have e_ : (min 1000 ((rd_T65 a0.st pa).f2 + a2 % 300)) = (rd_T65 a0.st pa).f2 + a2 % 300 := by omega
      exact ⟨below_drew (below_set HB.out hqb), blk_drew (blk_far (p := ⟨q, pa.toNat * 4 + 2, none⟩) HBX.out (fun e => HNQ.out (congrArg some e)) _), by rw [e_]; exact Cp.drew (hqs 2 _ ⟨(rd_T65 a0.st pa).f0, (rd_T65 a0.st pa).f1, (rd_T65 a0.st pa).f2 + a2 % 300, (rd_T65 a0.st pa).f3⟩ (by decide) rfl)⟩
    · have e_ : (min 1000 ((rd_T65 a0.st pa).f2 + a2 % 300)) = 1000 := by omega
      exact ⟨below_drew (below_set HB.out hqb), blk_drew (blk_far (p := ⟨q, pa.toNat * 4 + 2, none⟩) HBX.out (fun e => HNQ.out (congrArg some e)) _), by rw [e_]; exact Cp.drew (hqs 2 _ ⟨(rd_T65 a0.st pa).f0, (rd_T65 a0.st pa).f1, 1000, (rd_T65 a0.st pa).f3⟩ (by decide) rfl)⟩
  case rest =>
    obtain ⟨k0_, k1_, k2_⟩ := hcut
    clear HB HBX CX c0 f0 x0_ hqc hqf hqs HNQ hw
    have HB := Aside0.mk k0_
    have HBX := Aside0.mk k1_
    obtain ⟨u, hu, hu0, hu1, hu2⟩ : ∃ u : Int, min 1000 ((rd_T65 a0.st pa).f2 + a2 % 300) = (rd_T65 a0.st pa).f2 + u ∧ 0 ≤ u ∧ u < 300 ∧ (rd_T65 a0.st pa).f2 + u ≤ 1000 := ⟨min 1000 ((rd_T65 a0.st pa).f2 + a2 % 300) - (rd_T65 a0.st pa).f2, by omega, by omega, by omega, by omega⟩
    rw [hu] at k2_
    have CX := Aside0.mk k2_
    clear hu k0_ k1_ k2_ hmod
    have HA0 := Aside0.mk (at_pair (R := a0) HP.out.1 HP.out.2.1 ⟨Int.le_refl 0, by omega⟩ ⟨Int.le_refl 0, by omega⟩)
    have HQ := Aside0.mk (ask_mk HA0.out HP.out.2.2)
    obtain ⟨X, hX⟩ : ∃ X : Rv, X = ⟨a0.st.set pa.toNat ⟨(rd_T65 a0.st pa).f0, (rd_T65 a0.st pa).f1, (rd_T65 a0.st pa).f2 + u, (rd_T65 a0.st pa).f3⟩, a0.ri, a0.ca, a0.su, (some ⟨q, 0, none⟩), B1, B2, B3, e0_, e1_, e2_, e3_⟩ := ⟨_, rfl⟩
    rw [← hX] at CX
    have HUP := Aside0.mk (show Up a0 X pa u from ⟨by rw [hX], by rw [hX], by rw [hX], by rw [hX]⟩)
    clear hX
    have HX := Aside0.mk (up_x HUP.out HC.out HF.out HA0.out HP.out.2.2 hu0 hu2)
    have d0 := (blk_cell HBX.out 0).trans rfl
    have d1 := (blk_cell HBX.out 1).trans rfl
    have d2 := (blk_cell HBX.out 2).trans rfl
    have d3 := (blk_cell HBX.out 3).trans rfl
    have x0_ := CX.out.x0
    have x1_ := CX.out.x1
    have x2_ := CX.out.x2
    have x3_ := CX.out.x3
    go_wp2_with fail
    refine (lland_c a0 _ (HI.out.below HB.out) HF.out).mono ?_
    rintro e w8_ ⟨L, rfl, hO, hL, hb_⟩
    replace HB := Aside0.mk (bt HB.out hb_)
    replace HBX := Aside0.mk (blk_below HBX.out hb_)
    replace CX := Aside0.mk (CX.out.below hb_)
    clear x0_ x1_ x2_ x3_
    clear d0 d1 d2 d3
    clear hb_
    have d0 := (blk_cell HBX.out 0).trans rfl
    have d1 := (blk_cell HBX.out 1).trans rfl
    have d2 := (blk_cell HBX.out 2).trans rfl
    have d3 := (blk_cell HBX.out 3).trans rfl
    have x0_ := CX.out.x0
    have x1_ := CX.out.x1
    have x2_ := CX.out.x2
    have x3_ := CX.out.x3
    have HO := Aside0.mk hO
    have HL := Aside0.mk hL
    clear hO hL
    go_wp2_with fail
    refine (of_walls HO.out HL.out pa pb 0 0).mono ?_
    rintro e w9_ ⟨Ax1, cx1, Ay1, cy1, rfl, hX_, hY_, hb_⟩
    replace HB := Aside0.mk (bt HB.out hb_)
    replace HBX := Aside0.mk (blk_below HBX.out hb_)
    replace CX := Aside0.mk (CX.out.below hb_)
    clear x0_ x1_ x2_ x3_
    clear d0 d1 d2 d3
    clear hb_
    have d0 := (blk_cell HBX.out 0).trans rfl
    have d1 := (blk_cell HBX.out 1).trans rfl
    have d2 := (blk_cell HBX.out 2).trans rfl
    have d3 := (blk_cell HBX.out 3).trans rfl
    have x0_ := CX.out.x0
    have x1_ := CX.out.x1
    have x2_ := CX.out.x2
    have x3_ := CX.out.x3
    have HE := Aside0.mk (walls_ok HC.out HQ.out)
    rw [HE.out] at hX_
    rw [HE.out]
    clear HE
    rw [ridges_up] at hX_
    rw [ridges_up]
    have HY1 := Aside0.mk hX_
    clear hX_ hY_ HO HL
    go_wp2_with fail
    obtain ⟨yu, HEU⟩ := HX.out.2
    have HEU := Aside0.mk HEU
    refine (lland_c X _ CX.out.own.inn HX.out.1).mono ?_
    rintro e w10_ ⟨L, rfl, hO, hL, hb_⟩
    replace HB := Aside0.mk (bt HB.out hb_)
    replace HBX := Aside0.mk (blk_below HBX.out hb_)
    replace HY1 := Aside0.mk (Kd.C_below HY1.out hb_)
    replace CX := Aside0.mk (CX.out.below hb_)
    clear x0_ x1_ x2_ x3_
    clear d0 d1 d2 d3
    clear hb_
    have d0 := (blk_cell HBX.out 0).trans rfl
    have d1 := (blk_cell HBX.out 1).trans rfl
    have d2 := (blk_cell HBX.out 2).trans rfl
    have d3 := (blk_cell HBX.out 3).trans rfl
    have x0_ := CX.out.x0
    have x1_ := CX.out.x1
    have x2_ := CX.out.x2
    have x3_ := CX.out.x3
    have HO := Aside0.mk hO
    have HL := Aside0.mk hL
    clear hO hL
    go_wp2_with fail
    refine (of_walls HO.out HL.out pa pb 0 0).mono ?_
    rintro e w11_ ⟨Ax2, cx2, Ay2, cy2, rfl, hX_, hY_, hb_⟩
    replace HB := Aside0.mk (bt HB.out hb_)
    replace HBX := Aside0.mk (blk_below HBX.out hb_)
    replace HY1 := Aside0.mk (Kd.C_below HY1.out hb_)
    replace CX := Aside0.mk (CX.out.below hb_)
    clear x0_ x1_ x2_ x3_
    clear d0 d1 d2 d3
    clear hb_
    have d0 := (blk_cell HBX.out 0).trans rfl
    have d1 := (blk_cell HBX.out 1).trans rfl
    have d2 := (blk_cell HBX.out 2).trans rfl
    have d3 := (blk_cell HBX.out 3).trans rfl
    have x0_ := CX.out.x0
    have x1_ := CX.out.x1
    have x2_ := CX.out.x2
    have x3_ := CX.out.x3
    rw [HEU.out] at hX_
    rw [HEU.out]
    have HY2 := Aside0.mk hX_
    clear hX_ hY_ HO HL
    go_wp2_with fail
    refine (lland_c a0 _ (HI.out.below HB.out) HF.out).mono ?_
    rintro e w12_ ⟨L, rfl, hO, hL, hb_⟩
    replace HB := Aside0.mk (bt HB.out hb_)
    replace HBX := Aside0.mk (blk_below HBX.out hb_)
    replace HY1 := Aside0.mk (Kd.C_below HY1.out hb_)
    replace HY2 := Aside0.mk (Kd.C_below HY2.out hb_)
    replace CX := Aside0.mk (CX.out.below hb_)
    clear x0_ x1_ x2_ x3_
    clear d0 d1 d2 d3
    clear hb_
    have d0 := (blk_cell HBX.out 0).trans rfl
    have d1 := (blk_cell HBX.out 1).trans rfl
    have d2 := (blk_cell HBX.out 2).trans rfl
    have d3 := (blk_cell HBX.out 3).trans rfl
    have x0_ := CX.out.x0
    have x1_ := CX.out.x1
    have x2_ := CX.out.x2
    have x3_ := CX.out.x3
    have HO := Aside0.mk hO
    have HL := Aside0.mk hL
    clear hO hL
    go_wp2_with fail
    refine (of_rise HO.out HL.out pa pb).mono ?_
    rintro e w13_ ⟨rfl, hb_⟩
    replace HB := Aside0.mk (bt HB.out hb_)
    replace HBX := Aside0.mk (blk_below HBX.out hb_)
    replace HY1 := Aside0.mk (Kd.C_below HY1.out hb_)
    replace HY2 := Aside0.mk (Kd.C_below HY2.out hb_)
    replace CX := Aside0.mk (CX.out.below hb_)
    clear x0_ x1_ x2_ x3_
    clear d0 d1 d2 d3
    clear hb_
    have d0 := (blk_cell HBX.out 0).trans rfl
    have d1 := (blk_cell HBX.out 1).trans rfl
    have d2 := (blk_cell HBX.out 2).trans rfl
    have d3 := (blk_cell HBX.out 3).trans rfl
    have x0_ := CX.out.x0
    have x1_ := CX.out.x1
    have x2_ := CX.out.x2
    have x3_ := CX.out.x3
    clear HO HL
    have T65 := Aside0.mk HUP.out.st
    have LR := Aside0.mk (And.intro (lv_st a0 pa) (lv_st a0 pb))
    have ZQ : Aside0 ((rd_T85 a0.lv.st pa).f2 = (rd_T65 a0.st pa).f2) := ⟨by rw [LR.out.1]; rfl⟩
    have ZB := Aside0.mk (st_z HC.out HP.out.2.1.1 HP.out.2.1.2)
    have ZBQ : Aside0 ((rd_T85 a0.lv.st pb).f2 = (rd_T65 a0.st pb).f2) := ⟨by rw [LR.out.2]; rfl⟩
    have HRI := Aside0.mk (rise_is HC.out HQ.out (by rw [ZQ.out]; exact hz.2))
    have HSUB := Aside0.mk (ridgesU_sub (L := a0.lv) (s := rd_T85 a0.lv.st pa) (t := rd_T85 a0.lv.st pb) hu0 (Lv.base_of HC.out) (by rw [ZQ.out]; exact hz.1) (by rw [ZBQ.out]; exact ZB.out.1))
    have HLE := Aside0.mk (ridgesU_len (L := a0.lv) (s := rd_T85 a0.lv.st pa) (t := rd_T85 a0.lv.st pb) hu0 (Lv.base_of HC.out) (by rw [ZQ.out]; exact hz.1) (by rw [ZBQ.out]; exact ZB.out.1))
    have HNIL := Aside0.mk (ridgesU_nil (L := a0.lv) (s := rd_T85 a0.lv.st pa) (t := rd_T85 a0.lv.st pb) (n := u))
    have HMON := Aside0.mk fun (n : Int) (h0 : 0 ≤ n) (h1 : n ≤ u) (h2 : freeB a0.lv (rd_T85 a0.lv.st pa) (rd_T85 a0.lv.st pb) n = true) => free_mono (L := a0.lv) h0 h1 (Lv.base_of HC.out) (by rw [ZQ.out]; exact hz.1) (by rw [ZBQ.out]; exact ZB.out.1) h2
    generalize hps : ridgesU a0.lv (rd_T85 a0.lv.st pa) (rd_T85 a0.lv.st pb) 0 = ps at *
    generalize hqs : ridgesU a0.lv (rd_T85 a0.lv.st pa) (rd_T85 a0.lv.st pb) u = qs at *
    clear hps
    have HQS := Aside0.mk hqs
    clear hqs
    have lp := HY1.out.2.1
    have lq := HY2.out.2.1
    have hle := HLE.out
    have HXL : Aside0 (X.st.length = a0.st.length) := ⟨by rw [T65.out, List.length_set]⟩
    have HXZ : Aside0 ((rd_T65 X.st pa).f2 = (rd_T65 a0.st pa).f2 + u) := ⟨by rw [T65.out]; unfold rd_T65; rw [getD_set_, if_pos ⟨rfl, by have := HP.out.1; omega⟩]⟩
    have HWI : Aside0 (withinB qs ps = true) := ⟨withinB_iff.2 HSUB.out⟩
    rcases HRI.out with ⟨hr_, hblk⟩ | ⟨n, hr_, hn0, hn1, hn2, hn3⟩
    · rw [hr_]
      have HBLK := Aside0.mk hblk
      clear hblk
      have hne : 0 < qs.length := by have h_ : qs ≠ [] := (fun e => by have := HNIL.out.1 e; rw [HBLK.out u hu0 (by rw [ZQ.out]; exact hu2)] at this; exact absurd this (by decide)); exact List.length_pos_iff.2 h_
      clear HRI
      go_wp2_with fail
      rw [show decide (ps.length < qs.length) = false from decide_eq_false (by omega)]
      go_loopg [18] qs.length (fun gg s18 wr => ∃ i : Int, s18 = .int .i64 i ∧ 0 ≤ i ∧ i ≤ (qs.length : Int) ∧ (qs.length : Int) - i ≤ (gg : Int) ∧ Aside0 (Below w13_.heap.size w13_ wr))
      case atStart => exact ⟨0, rfl, by omega, by omega, by omega, ⟨Below.refl _ _⟩⟩
      case round =>
        obtain ⟨i, rfl, h0_, h1_, hg_, BW⟩ := hrel
        obtain ⟨W2, rfl⟩ : ∃ W2 : World, W2 = wr := ⟨_, rfl⟩
        by_cases hlt : i < (qs.length : Int)
        · obtain ⟨aa, ea, xa0⟩ := Kd.at_int (Kd.C_below HY2.out BW.out) i h0_ hlt
          subst ea
          have XA := Aside0.mk xa0
          clear xa0
          have HIN : Aside0 (anyK (fun j => rd ps j == rd qs i) ps.length = true) := ⟨by have h := HWI.out; unfold withinB at h; exact allK_at h h0_ hlt⟩
          go_wp2_with fail
          go_loopg [19, 20] ps.length (fun gg s19 s20 wr => ∃ k : Int, s20 = .int .i64 k ∧ s19 = .bool (anyK (fun j => rd ps j == rd qs i) k.toNat) ∧ 0 ≤ k ∧ k ≤ (ps.length : Int) ∧ (ps.length : Int) - k ≤ (gg : Int) ∧ Aside0 (Below W2.heap.size W2 wr))
          case atStart => exact ⟨0, rfl, rfl, by omega, by omega, by omega, ⟨Below.refl _ _⟩⟩
          case round =>
            obtain ⟨k, rfl, rfl, k0, k1, hgk, BK⟩ := hrel
            obtain ⟨W3, rfl⟩ : ∃ W3 : World, W3 = wr := ⟨_, rfl⟩
            by_cases hkt : k < (ps.length : Int)
            · have HK := Aside0.mk (anyK_succ (fun j => rd ps j == rd qs i) k.toNat)
              have ek : ((k.toNat : Nat) : Int) = k := Int.toNat_of_nonneg k0
              rw [ek] at HK
              have HK1 : Aside0 ((k + 1).toNat = k.toNat + 1) := ⟨by omega⟩
              clear ek
              obtain ⟨ab, eb, xb⟩ := Kd.at_int (Kd.C_below (Kd.C_below HY1.out BW.out) BK.out) k k0 hkt
              subst eb
              have xa := cb BK.out XA.out
              cases han : anyK (fun j => rd ps j == rd qs i) k.toNat
              · have HE : Aside0 (anyK (fun j => rd ps j == rd qs i) (k + 1).toNat = (rd ps k == rd qs i)) := ⟨by rw [HK1.out, HK.out, han]; rfl⟩
                clear han
                go_wp2_with fail
                replace xa := fun d os => cell_regrown xa d os
                replace xb := fun d os => cell_regrown xb d os
                refine wp_region_quiet_below (by kernel_rfl) (by kernel_rfl) ?_
                repeat (go_big_quiet_step (fail))
                refine wpQuiet_nil ?_
                intro _ hw'
                obtain ⟨⟨dq, osq⟩, hw''⟩ := hw'
                subst hw''
                have BK2 := Aside0.mk (bt BK.out (below_regrown W3 dq osq))
                clear xa xb BK
                generalize grow (redrawn W3 dq) osq = W4 at *
                go_wp2_with fail
                go_roundg (ps.length - (k + 1).toNat)
                case measure => omega
                case rel => exact ⟨k + 1, by first | rfl | go_num, by rw [HE.out], by omega, by omega, by omega, BK2⟩
              · have HE : Aside0 (anyK (fun j => rd ps j == rd qs i) (k + 1).toNat = true) := ⟨by rw [HK1.out, HK.out, han]; rfl⟩
                clear han
                go_wp2_with fail
                replace xa := fun d os => cell_regrown xa d os
                replace xb := fun d os => cell_regrown xb d os
                refine wp_region_quiet_below (by kernel_rfl) (by kernel_rfl) ?_
                repeat (go_big_quiet_step (fail))
                refine wpQuiet_nil ?_
                intro _ hw'
                obtain ⟨⟨dq, osq⟩, hw''⟩ := hw'
                subst hw''
                have BK2 := Aside0.mk (bt BK.out (below_regrown W3 dq osq))
                clear xa xb BK
                generalize grow (redrawn W3 dq) osq = W4 at *
                go_wp2_with fail
                go_roundg (ps.length - (k + 1).toNat)
                case measure => omega
                case rel => exact ⟨k + 1, by first | rfl | go_num, by rw [HE.out], by omega, by omega, by omega, BK2⟩
            · have e_ : k = (ps.length : Int) := by omega
              subst e_
              rw [Int.toNat_natCast, HIN.out]
              go_wp2_with fail
              go_roundg (qs.length - (i + 1).toNat)
              case measure => omega
              case rel => exact ⟨i + 1, by first | rfl | go_num, by omega, by omega, by omega, ⟨bt BW.out BK.out⟩⟩
        · have e_ : i = (qs.length : Int) := by omega
          subst e_
          replace HB := Aside0.mk (bt HB.out BW.out)
          replace HBX := Aside0.mk (blk_below HBX.out BW.out)
          replace HY1 := Aside0.mk (Kd.C_below HY1.out BW.out)
          replace HY2 := Aside0.mk (Kd.C_below HY2.out BW.out)
          replace CX := Aside0.mk (CX.out.below BW.out)
          clear BW
          go_wp2_with fail
          clear x0_ x1_ x2_ x3_
          clear d0 d1 d2 d3
          have d0 := (blk_cell HBX.out 0).trans rfl
          have d1 := (blk_cell HBX.out 1).trans rfl
          have d2 := (blk_cell HBX.out 2).trans rfl
          have d3 := (blk_cell HBX.out 3).trans rfl
          have x0_ := CX.out.x0
          have x1_ := CX.out.x1
          have x2_ := CX.out.x2
          have x3_ := CX.out.x3
          obtain ⟨ad, ea_, y0, y1, y2, y3⟩ := at_T65 (Kd.C_below HI.out.r0 HB.out) pa HP.out.1.1 HP.out.1.2
          obtain ⟨ae, eb_, z0, z1, z2, z3⟩ := at_T65 CX.out.own.inn.r0 pa HP.out.1.1 (by rw [HXL.out]; exact HP.out.1.2)
          clear y0 y1 y3 z0 z1 z3
          rw [ea_] at d0
          rw [eb_] at x0_
          rw [HXZ.out] at z2
          have p0 := HP.out.1.1
          have p1 := HP.out.1.2
          have p2 : pa < X.st.length := by rw [HXL.out]; exact p1
          have hw := wr64 (n := (rd_T65 a0.st pa).f2 + u - (rd_T65 a0.st pa).f2) (by omega) (by omega)
          go_upto_region 21 with (fail)
          go_cut [21] (fun s21 wx => s21 = .int .i64 u ∧ Below W2.heap.size W2 wx)
          case first =>
            have hz3 : (rd_T65 a0.st pa).f2 + u - (rd_T65 a0.st pa).f2 = u := by omega
            rw [hz3] at hw
            go_region
            all_goals go_wp2_with fail
            all_goals go_meet
            all_goals exact ⟨by first | rfl | (congr 1; omega), below_drew (Below.refl _ _)⟩
          case rest =>
            obtain ⟨rfl, hb_⟩ := hcut
            clear y2 z2 hw p0 p1 p2
            replace HB := Aside0.mk (bt HB.out hb_)
            replace HBX := Aside0.mk (blk_below HBX.out hb_)
            replace HY1 := Aside0.mk (Kd.C_below HY1.out hb_)
            replace HY2 := Aside0.mk (Kd.C_below HY2.out hb_)
            replace CX := Aside0.mk (CX.out.below hb_)
            clear x0_ x1_ x2_ x3_
            clear d0 d1 d2 d3
            clear hb_
            have d0 := (blk_cell HBX.out 0).trans rfl
            have d1 := (blk_cell HBX.out 1).trans rfl
            have d2 := (blk_cell HBX.out 2).trans rfl
            have d3 := (blk_cell HBX.out 3).trans rfl
            have x0_ := CX.out.x0
            have x1_ := CX.out.x1
            have x2_ := CX.out.x2
            have x3_ := CX.out.x3
            go_wp2_with fail
            refine (awake_c _).mono ?_
            rintro e w14_ ⟨rfl, hb_⟩
            replace HB := Aside0.mk (bt HB.out hb_)
            replace HBX := Aside0.mk (blk_below HBX.out hb_)
            replace HY1 := Aside0.mk (Kd.C_below HY1.out hb_)
            replace HY2 := Aside0.mk (Kd.C_below HY2.out hb_)
            replace CX := Aside0.mk (CX.out.below hb_)
            clear x0_ x1_ x2_ x3_
            clear d0 d1 d2 d3
            clear hb_
            go_wp2_with fail
            go_ret
            exact ⟨ret_bool rfl, HB.out⟩
    · rw [hr_]
      have HN2 := Aside0.mk hn2
      have HN1 : Aside0 ((rd_T65 a0.st pa).f2 + n ≤ 1000) := ⟨by rw [← ZQ.out]; exact hn1⟩
      have hq_ : (u < n ∧ 0 < qs.length) ∨ (n ≤ u ∧ qs.length = 0) := by
        by_cases hun : u < n
        · refine .inl ⟨hun, List.length_pos_iff.2 fun e => ?_⟩
          have := HNIL.out.1 e
          rw [hn3 u hu0 hun] at this
          exact absurd this (by decide)
        · refine .inr ⟨by omega, ?_⟩
          rw [HNIL.out.2 (HMON.out n hn0 (by omega) hn2)]
          rfl
      clear hn1 hn2 hn3 HRI
      have hn1_ := HN1.out
      go_wp2_with fail
      rw [show decide (ps.length < qs.length) = false from decide_eq_false (by omega)]
      go_loopg [18] qs.length (fun gg s18 wr => ∃ i : Int, s18 = .int .i64 i ∧ 0 ≤ i ∧ i ≤ (qs.length : Int) ∧ (qs.length : Int) - i ≤ (gg : Int) ∧ Aside0 (Below w13_.heap.size w13_ wr))
      case atStart => exact ⟨0, rfl, by omega, by omega, by omega, ⟨Below.refl _ _⟩⟩
      case round =>
        obtain ⟨i, rfl, h0_, h1_, hg_, BW⟩ := hrel
        obtain ⟨W2, rfl⟩ : ∃ W2 : World, W2 = wr := ⟨_, rfl⟩
        by_cases hlt : i < (qs.length : Int)
        · obtain ⟨aa, ea, xa0⟩ := Kd.at_int (Kd.C_below HY2.out BW.out) i h0_ hlt
          subst ea
          have XA := Aside0.mk xa0
          clear xa0
          have HIN : Aside0 (anyK (fun j => rd ps j == rd qs i) ps.length = true) := ⟨by have h := HWI.out; unfold withinB at h; exact allK_at h h0_ hlt⟩
          go_wp2_with fail
          go_loopg [19, 20] ps.length (fun gg s19 s20 wr => ∃ k : Int, s20 = .int .i64 k ∧ s19 = .bool (anyK (fun j => rd ps j == rd qs i) k.toNat) ∧ 0 ≤ k ∧ k ≤ (ps.length : Int) ∧ (ps.length : Int) - k ≤ (gg : Int) ∧ Aside0 (Below W2.heap.size W2 wr))
          case atStart => exact ⟨0, rfl, rfl, by omega, by omega, by omega, ⟨Below.refl _ _⟩⟩
          case round =>
            obtain ⟨k, rfl, rfl, k0, k1, hgk, BK⟩ := hrel
            obtain ⟨W3, rfl⟩ : ∃ W3 : World, W3 = wr := ⟨_, rfl⟩
            by_cases hkt : k < (ps.length : Int)
            · have HK := Aside0.mk (anyK_succ (fun j => rd ps j == rd qs i) k.toNat)
              have ek : ((k.toNat : Nat) : Int) = k := Int.toNat_of_nonneg k0
              rw [ek] at HK
              have HK1 : Aside0 ((k + 1).toNat = k.toNat + 1) := ⟨by omega⟩
              clear ek
              obtain ⟨ab, eb, xb⟩ := Kd.at_int (Kd.C_below (Kd.C_below HY1.out BW.out) BK.out) k k0 hkt
              subst eb
              have xa := cb BK.out XA.out
              cases han : anyK (fun j => rd ps j == rd qs i) k.toNat
              · have HE : Aside0 (anyK (fun j => rd ps j == rd qs i) (k + 1).toNat = (rd ps k == rd qs i)) := ⟨by rw [HK1.out, HK.out, han]; rfl⟩
                clear han
                go_wp2_with fail
                replace xa := fun d os => cell_regrown xa d os
                replace xb := fun d os => cell_regrown xb d os
                refine wp_region_quiet_below (by kernel_rfl) (by kernel_rfl) ?_
                repeat (go_big_quiet_step (fail))
                refine wpQuiet_nil ?_
                intro _ hw'
                obtain ⟨⟨dq, osq⟩, hw''⟩ := hw'
                subst hw''
                have BK2 := Aside0.mk (bt BK.out (below_regrown W3 dq osq))
                clear xa xb BK
                generalize grow (redrawn W3 dq) osq = W4 at *
                go_wp2_with fail
                go_roundg (ps.length - (k + 1).toNat)
                case measure => omega
                case rel => exact ⟨k + 1, by first | rfl | go_num, by rw [HE.out], by omega, by omega, by omega, BK2⟩
              · have HE : Aside0 (anyK (fun j => rd ps j == rd qs i) (k + 1).toNat = true) := ⟨by rw [HK1.out, HK.out, han]; rfl⟩
                clear han
                go_wp2_with fail
                replace xa := fun d os => cell_regrown xa d os
                replace xb := fun d os => cell_regrown xb d os
                refine wp_region_quiet_below (by kernel_rfl) (by kernel_rfl) ?_
                repeat (go_big_quiet_step (fail))
                refine wpQuiet_nil ?_
                intro _ hw'
                obtain ⟨⟨dq, osq⟩, hw''⟩ := hw'
                subst hw''
                have BK2 := Aside0.mk (bt BK.out (below_regrown W3 dq osq))
                clear xa xb BK
                generalize grow (redrawn W3 dq) osq = W4 at *
                go_wp2_with fail
                go_roundg (ps.length - (k + 1).toNat)
                case measure => omega
                case rel => exact ⟨k + 1, by first | rfl | go_num, by rw [HE.out], by omega, by omega, by omega, BK2⟩
            · have e_ : k = (ps.length : Int) := by omega
              subst e_
              rw [Int.toNat_natCast, HIN.out]
              go_wp2_with fail
              go_roundg (qs.length - (i + 1).toNat)
              case measure => omega
              case rel => exact ⟨i + 1, by first | rfl | go_num, by omega, by omega, by omega, ⟨bt BW.out BK.out⟩⟩
        · have e_ : i = (qs.length : Int) := by omega
          subst e_
          replace HB := Aside0.mk (bt HB.out BW.out)
          replace HBX := Aside0.mk (blk_below HBX.out BW.out)
          replace HY1 := Aside0.mk (Kd.C_below HY1.out BW.out)
          replace HY2 := Aside0.mk (Kd.C_below HY2.out BW.out)
          replace CX := Aside0.mk (CX.out.below BW.out)
          clear BW
          go_wp2_with fail
          clear x0_ x1_ x2_ x3_
          clear d0 d1 d2 d3
          have d0 := (blk_cell HBX.out 0).trans rfl
          have d1 := (blk_cell HBX.out 1).trans rfl
          have d2 := (blk_cell HBX.out 2).trans rfl
          have d3 := (blk_cell HBX.out 3).trans rfl
          have x0_ := CX.out.x0
          have x1_ := CX.out.x1
          have x2_ := CX.out.x2
          have x3_ := CX.out.x3
          obtain ⟨ad, ea_, y0, y1, y2, y3⟩ := at_T65 (Kd.C_below HI.out.r0 HB.out) pa HP.out.1.1 HP.out.1.2
          obtain ⟨ae, eb_, z0, z1, z2, z3⟩ := at_T65 CX.out.own.inn.r0 pa HP.out.1.1 (by rw [HXL.out]; exact HP.out.1.2)
          clear y0 y1 y3 z0 z1 z3
          rw [ea_] at d0
          rw [eb_] at x0_
          rw [HXZ.out] at z2
          have p0 := HP.out.1.1
          have p1 := HP.out.1.2
          have p2 : pa < X.st.length := by rw [HXL.out]; exact p1
          have hw := wr64 (n := (rd_T65 a0.st pa).f2 + u - (rd_T65 a0.st pa).f2) (by omega) (by omega)
          go_upto_region 21 with (fail)
          go_cut [21] (fun s21 wx => s21 = .int .i64 u ∧ Below W2.heap.size W2 wx)
          case first =>
            have hz3 : (rd_T65 a0.st pa).f2 + u - (rd_T65 a0.st pa).f2 = u := by omega
            rw [hz3] at hw
            go_region
            all_goals go_wp2_with fail
            all_goals go_meet
            all_goals exact ⟨by first | rfl | (congr 1; omega), below_drew (Below.refl _ _)⟩
          case rest =>
            obtain ⟨rfl, hb_⟩ := hcut
            clear y2 z2 hw p0 p1 p2
            replace HB := Aside0.mk (bt HB.out hb_)
            replace HBX := Aside0.mk (blk_below HBX.out hb_)
            replace HY1 := Aside0.mk (Kd.C_below HY1.out hb_)
            replace HY2 := Aside0.mk (Kd.C_below HY2.out hb_)
            replace CX := Aside0.mk (CX.out.below hb_)
            clear x0_ x1_ x2_ x3_
            clear d0 d1 d2 d3
            clear hb_
            have d0 := (blk_cell HBX.out 0).trans rfl
            have d1 := (blk_cell HBX.out 1).trans rfl
            have d2 := (blk_cell HBX.out 2).trans rfl
            have d3 := (blk_cell HBX.out 3).trans rfl
            have x0_ := CX.out.x0
            have x1_ := CX.out.x1
            have x2_ := CX.out.x2
            have x3_ := CX.out.x3
            obtain ⟨ad, ea_, y0, y1, y2, y3⟩ := at_T65 (Kd.C_below HI.out.r0 HB.out) pa HP.out.1.1 HP.out.1.2
            clear y0 y1 y3
            rw [ea_] at d0
            have p0 := HP.out.1.1
            have p1 := HP.out.1.2
            have p2 : pa < X.st.length := by rw [HXL.out]; exact p1
            obtain ⟨q, hq, hqb, hqc, hqf, hqs⟩ := CX.out.st pa p0 p2
            have HNQ := Aside0.mk (show some w.heap.size ≠ some q from by have h := Kd.R_ne CX.out.own.r0 HBX.out (by decide); rw [hq] at h; exact h)
            rw [hq] at x0_
            have c0 := hqc 2 _ rfl
            have f0 := hqf 2
            have HQB := Aside0.mk hqb
            have HCN := Aside0.mk (hqs 2 (.int .i64 ((rd_T65 a0.st pa).f2 + n)) ⟨(rd_T65 X.st pa).f0, (rd_T65 X.st pa).f1, (rd_T65 a0.st pa).f2 + n, (rd_T65 X.st pa).f3⟩ (by decide) rfl)
            clear hq hqb hqc hqf hqs
            have hz4 := hz
            have hw := wr64 (n := (rd_T65 a0.st pa).f2 + n) (by omega) (by omega)
            rcases hq_ with ⟨hu_, hl_⟩ | ⟨hu_, hl_⟩
            all_goals
              go_upto_region 26 with (fail)
              go_cut [] (fun wx => Below w.heap.size w wx ∧ wx.heap[w.heap.size]? = some (.cells #[.slice a0.A0 a0.st.length a0.c0, .slice a0.A1 a0.ri.length a0.c1, .slice a0.A2 a0.ca.length a0.c2, .slice a0.A3 a0.su.length a0.c3] 27 (0, 0)) ∧ Cp ({ X with st := X.st.set pa.toNat ⟨(rd_T65 X.st pa).f0, (rd_T65 X.st pa).f1, (rd_T65 a0.st pa).f2 + n, (rd_T65 X.st pa).f3⟩ }) gx w.heap.size wx)
              case first =>
                go_region
                all_goals go_wp2_with fail
                all_goals go_meet
                all_goals exact ⟨below_drew (below_set HB.out HQB.out), blk_drew (blk_far (p := ⟨q, pa.toNat * 4 + 2, none⟩) HBX.out (fun e => HNQ.out (congrArg some e)) _), Cp.drew HCN.out⟩
              case rest =>
                obtain ⟨k0_, k1_, k2_⟩ := hcut
                clear HB HBX CX c0 f0 d0 d1 d2 d3 x0_ x1_ x2_ x3_ y2 HQB HCN HNQ hw
                have HB := Aside0.mk k0_
                have HBX := Aside0.mk k1_
                obtain ⟨Y, hY⟩ : ∃ Y : Rv, Y = { X with st := X.st.set pa.toNat ⟨(rd_T65 X.st pa).f0, (rd_T65 X.st pa).f1, (rd_T65 a0.st pa).f2 + n, (rd_T65 X.st pa).f3⟩ } := ⟨_, rfl⟩
                rw [← hY] at k2_
                have CX := Aside0.mk k2_
                have HUP2 := Aside0.mk (show Up a0 Y pa n from HUP.out.again p0 p1 (by rw [hY]) (by rw [hY]) (by rw [hY]) (by rw [hY]))
                clear hY k0_ k1_ k2_
                have HXY := Aside0.mk (up_x HUP2.out HC.out HF.out HA0.out HP.out.2.2 hn0 hn1_)
                obtain ⟨yn, HEN⟩ := HXY.out.2
                have HEN := Aside0.mk HEN
                rw [ridgesU_nil.2 HN2.out] at HEN
                clear HY1 HY2
                have d0 := (blk_cell HBX.out 0).trans rfl
                have d1 := (blk_cell HBX.out 1).trans rfl
                have d2 := (blk_cell HBX.out 2).trans rfl
                have d3 := (blk_cell HBX.out 3).trans rfl
                have x0_ := CX.out.x0
                have x1_ := CX.out.x1
                have x2_ := CX.out.x2
                have x3_ := CX.out.x3
                go_wp2_with fail
                refine (lland_c Y _ CX.out.own.inn HXY.out.1).mono ?_
                rintro e w14_ ⟨L, rfl, hO, hL, hb_⟩
                replace HB := Aside0.mk (bt HB.out hb_)
                replace HBX := Aside0.mk (blk_below HBX.out hb_)
                replace CX := Aside0.mk (CX.out.below hb_)
                clear x0_ x1_ x2_ x3_
                clear d0 d1 d2 d3
                clear hb_
                have d0 := (blk_cell HBX.out 0).trans rfl
                have d1 := (blk_cell HBX.out 1).trans rfl
                have d2 := (blk_cell HBX.out 2).trans rfl
                have d3 := (blk_cell HBX.out 3).trans rfl
                have x0_ := CX.out.x0
                have x1_ := CX.out.x1
                have x2_ := CX.out.x2
                have x3_ := CX.out.x3
                have HO := Aside0.mk hO
                have HL := Aside0.mk hL
                clear hO hL
                go_wp2_with fail
                refine (of_walls HO.out HL.out pa pb 0 0).mono ?_
                rintro e w15_ ⟨Ax3, cx3, Ay3, cy3, rfl, hX_, hY_, hb_⟩
                replace HB := Aside0.mk (bt HB.out hb_)
                replace HBX := Aside0.mk (blk_below HBX.out hb_)
                replace CX := Aside0.mk (CX.out.below hb_)
                clear x0_ x1_ x2_ x3_
                clear d0 d1 d2 d3
                clear hb_
                have d0 := (blk_cell HBX.out 0).trans rfl
                have d1 := (blk_cell HBX.out 1).trans rfl
                have d2 := (blk_cell HBX.out 2).trans rfl
                have d3 := (blk_cell HBX.out 3).trans rfl
                have x0_ := CX.out.x0
                have x1_ := CX.out.x1
                have x2_ := CX.out.x2
                have x3_ := CX.out.x3
                rw [HEN.out] at hX_
                rw [HEN.out]
                have HY3 := Aside0.mk hX_
                clear hX_ hY_ HO HL
                go_wp2_with fail
                refine (awake_c _).mono ?_
                rintro e w16_ ⟨rfl, hb_⟩
                replace HB := Aside0.mk (bt HB.out hb_)
                replace HBX := Aside0.mk (blk_below HBX.out hb_)
                replace HY3 := Aside0.mk (Kd.C_below HY3.out hb_)
                replace CX := Aside0.mk (CX.out.below hb_)
                clear x0_ x1_ x2_ x3_
                clear d0 d1 d2 d3
                clear hb_
                go_wp2_with fail
                go_ret
                exact ⟨ret_bool rfl, HB.out⟩
end Go.Proofs.Ytkbdphjnpieceaa.G
