/- HillReached: the walk. -/
import Derived.Test.YtkbdphjnpieceaaC1
import Derived.Test.YtkbdphjnpieceaaP3
namespace Go.Proofs.Ytkbdphjnpieceaa.G
open Go.RowKit Go.Proofs.YtkbdphjnpieceaaW.PrintWords Go.Proofs.YtkbdphjnpieceaaW.PrintLast Go.Proofs.YtkbdphjnpieceaaW.PrintMore
set_option linter.unusedVariables false
set_option linter.unusedSimpArgs false
set_option maxHeartbeats 8000000 in
set_option maxRecDepth 100000 in
theorem hillReached_c (a0 : Rv) (a1 : Int) (a2 : Int) (a3 : Int) (w : World) (h0 : a0.In w) (h1 : (Lit.int .u8 a1).wf = true) (h2 : (Lit.int .u8 a2).wf = true) (h3 : (Lit.int .u8 a3).wf = true) :
    Calls Try.prog 8 #[.agg a0.cells, .int .u8 a1, .int .u8 a2, .int .u8 a3] w fun e w' => e = .returned (.bool true) ∧ Below w.heap.size w w' := by
  have HI := Aside0.mk h0
  have HB := Aside0.mk (b1 w (.cells a0.cells 27))
  have HBX := Aside0.mk (blk_new w (.cells a0.cells 27))
  have l0 := h0.r0.2.1
  have l1 := h0.r1.2.1
  have l2 := h0.r2.2.1
  have l3 := h0.r3.2.1
  clear h0
  simp only [Rv.cells] at *
  by_cases hth : a0.rdy = true
  rotate_left
  · have HT : Aside0 (a0.rdy = false) := ⟨by simpa using hth⟩
    clear hth
    go_enter Try.func8, Try.ntmps8
    have d0 := (blk_cell HBX.out 0).trans rfl
    have d1 := (blk_cell HBX.out 1).trans rfl
    have d2 := (blk_cell HBX.out 2).trans rfl
    have d3 := (blk_cell HBX.out 3).trans rfl
    go_wp2_with fail
    refine (ready_c a0 _ (HI.out.below HB.out)).mono ?_
    rintro e w1_ ⟨rfl, hb_⟩
    replace HB := Aside0.mk (bt HB.out hb_)
    replace HBX := Aside0.mk (blk_below HBX.out hb_)
    clear d0 d1 d2 d3
    clear hb_
    have d0 := (blk_cell HBX.out 0).trans rfl
    have d1 := (blk_cell HBX.out 1).trans rfl
    have d2 := (blk_cell HBX.out 2).trans rfl
    have d3 := (blk_cell HBX.out 3).trans rfl
    rw [HT.out]
    go_wp2_with fail
    refine (awake_c _).mono ?_
    rintro e w2_ ⟨rfl, hb_⟩
    replace HB := Aside0.mk (bt HB.out hb_)
    replace HBX := Aside0.mk (blk_below HBX.out hb_)
    clear d0 d1 d2 d3
    clear hb_
    go_wp2_with fail
    go_ret
    exact ⟨ret_bool rfl, HB.out⟩
  have HT := Aside0.mk hth
  have HF := Aside0.mk (rdy_of hth).1
  have HC := Aside0.mk (rdy_of hth).2.1
  have HLEN := Aside0.mk (rdy_of hth).2.2
  clear hth
  obtain ⟨hs2, hs6, hr6, hc1, hc4, hu1, hu12⟩ := HLEN.out
  go_enter Try.func8, Try.ntmps8
  have d0 := (blk_cell HBX.out 0).trans rfl
  have d1 := (blk_cell HBX.out 1).trans rfl
  have d2 := (blk_cell HBX.out 2).trans rfl
  have d3 := (blk_cell HBX.out 3).trans rfl
  go_wp2_with fail
  refine (ready_c a0 _ (HI.out.below HB.out)).mono ?_
  rintro e w3_ ⟨rfl, hb_⟩
  replace HB := Aside0.mk (bt HB.out hb_)
  replace HBX := Aside0.mk (blk_below HBX.out hb_)
  clear d0 d1 d2 d3
  clear hb_
  have d0 := (blk_cell HBX.out 0).trans rfl
  have d1 := (blk_cell HBX.out 1).trans rfl
  have d2 := (blk_cell HBX.out 2).trans rfl
  have d3 := (blk_cell HBX.out 3).trans rfl
  rw [HT.out]
  go_wp2_with fail
  have HCC := Aside0.mk (cases_few HC.out)
  refine (pair_c a0 a1 _ hs2 (by omega) h1).mono ?_
  rintro e w4_ ⟨rfl, hb_⟩
  replace HB := Aside0.mk (bt HB.out hb_)
  replace HBX := Aside0.mk (blk_below HBX.out hb_)
  clear d0 d1 d2 d3
  clear hb_
  have d0 := (blk_cell HBX.out 0).trans rfl
  have d1 := (blk_cell HBX.out 1).trans rfl
  have d2 := (blk_cell HBX.out 2).trans rfl
  have d3 := (blk_cell HBX.out 3).trans rfl
  have HP := Aside0.mk (pair_bd (n := (a0.st.length : Int)) (q := a1) (by omega) (u8_bd h1).1)
  generalize pairA a0.st.length a1 = pa at *
  generalize pairB a0.st.length a1 = pb at *
  go_wp2_with fail
  go_upto_region 4 with (fail)
  have q2 := u8_bd h2
  have q3 := u8_bd h3
  go_cut [11, 12] (fun s11 s12 wx => s11 = .int .i64 (a2 % (a0.ca.length : Int)) ∧ s12 = .int .i64 (a3 % (a0.su.length : Int)) ∧ Below w4_.heap.size w4_ wx)
  case first =>
    go_region
    all_goals go_wp2_with fail
    all_goals go_meet
    all_goals exact ⟨rfl, rfl, below_drew (Below.refl _ _)⟩
  case rest =>
    obtain ⟨rfl, rfl, hb_⟩ := hcut
    replace HB := Aside0.mk (bt HB.out hb_)
    replace HBX := Aside0.mk (blk_below HBX.out hb_)
    clear d0 d1 d2 d3
    clear hb_
    have d0 := (blk_cell HBX.out 0).trans rfl
    have d1 := (blk_cell HBX.out 1).trans rfl
    have d2 := (blk_cell HBX.out 2).trans rfl
    have d3 := (blk_cell HBX.out 3).trans rfl
    have HK := Aside0.mk (mod_bd (q := a2) hc1)
    have HH := Aside0.mk (mod_bd (q := a3) hu1)
    generalize a2 % (a0.ca.length : Int) = ck at *
    generalize a3 % (a0.su.length : Int) = ch at *
    have HAT := Aside0.mk (at_pair HP.out.1 HP.out.2.1 HK.out HH.out)
    have HQ := Aside0.mk (ask_mk HAT.out HP.out.2.2)
    clear q2 q3
    go_wp2_with fail
    refine (copied_v a0 _ (HI.out.below HB.out) (by omega) (by omega) (by omega) HCC.out (by omega)).mono ?_
    rintro e w5_ ⟨B0, e0_, B1, e1_, B2, e2_, B3, e3_, rfl, hOw, hb_⟩
    have HOW := Aside0.mk (Own.lower hOw HB.out.size)
    replace HB := Aside0.mk (bt HB.out hb_)
    replace HBX := Aside0.mk (blk_below HBX.out hb_)
    clear d0 d1 d2 d3
    clear hOw hb_
    go_wp2_with (first | ((with_reducible refine gate_dst (N := 13) rfl ?_); refine box_event ?hg (N := 13) ?hd (cs := #[.slice none 0 0, .slice none 0 0, .slice none 0 0, .slice none 0 0]) (t := 27) ?hr ?_; (case hd => rfl); (case hg => rfl); (case hr => first | (go_simp; done) | (go_simp; rfl)); intro gx hg_ w6_ hbox_ hb_; have HGX := Aside0.mk (show w.heap.size < gx from by rw [hg_]; exact blk_lt HBX.out); replace HB := Aside0.mk (bt HB.out hb_); replace HBX := Aside0.mk (blk_below HBX.out hb_); replace HOW := Aside0.mk (HOW.out.below hb_); have HBZ := Aside0.mk hbox_; clear hbox_ hb_ hg_) | ((with_reducible refine gate_st (p := 13) rfl ?_); have c0 := (blk_cell (HBZ.out) 0).trans rfl; have f0 := blk_frozen (HBZ.out) 0; have c1 := (blk_cell (blk_set (HBZ.out) 0 (.slice B0 a0.st.length e0_)) 1).trans rfl; have f1 := blk_frozen (blk_set (HBZ.out) 0 (.slice B0 a0.st.length e0_)) 1; have c2 := (blk_cell (blk_set (blk_set (HBZ.out) 0 (.slice B0 a0.st.length e0_)) 1 (.slice B1 a0.ri.length e1_)) 2).trans rfl; have f2 := blk_frozen (blk_set (blk_set (HBZ.out) 0 (.slice B0 a0.st.length e0_)) 1 (.slice B1 a0.ri.length e1_)) 2; have c3 := (blk_cell (blk_set (blk_set (blk_set (HBZ.out) 0 (.slice B0 a0.st.length e0_)) 1 (.slice B1 a0.ri.length e1_)) 2 (.slice B2 a0.ca.length e2_)) 3).trans rfl; have f3 := blk_frozen (blk_set (blk_set (blk_set (HBZ.out) 0 (.slice B0 a0.st.length e0_)) 1 (.slice B1 a0.ri.length e1_)) 2 (.slice B2 a0.ca.length e2_)) 3; refine put_ev (p := 13) (w1 := ((((w6_.setCell ⟨gx, 0, none⟩ (.slice B0 a0.st.length e0_)).setCell ⟨gx, 1, none⟩ (.slice B1 a0.ri.length e1_)).setCell ⟨gx, 2, none⟩ (.slice B2 a0.ca.length e2_)).setCell ⟨gx, 3, none⟩ (.slice B3 a0.su.length e3_))) (fun x_ => Below w.heap.size w x_ ∧ x_.heap[w.heap.size]? = some (.cells #[.slice a0.A0 a0.st.length a0.c0, .slice a0.A1 a0.ri.length a0.c1, .slice a0.A2 a0.ca.length a0.c2, .slice a0.A3 a0.su.length a0.c3] 27 (0, 0)) ∧ Cp ⟨a0.st, a0.ri, a0.ca, a0.su, B0, B1, B2, B3, e0_, e1_, e2_, e3_⟩ gx w.heap.size x_) rfl rfl rfl ?hr ?hF ?_; (case hr => first | (go_simp; done) | (go_simp; rfl)); (case hF => exact ⟨below_set (below_set (below_set (below_set (HB.out) (Nat.le_of_lt HGX.out)) (Nat.le_of_lt HGX.out)) (Nat.le_of_lt HGX.out)) (Nat.le_of_lt HGX.out), blk_far (p := ⟨gx, 3, none⟩) (blk_far (p := ⟨gx, 2, none⟩) (blk_far (p := ⟨gx, 1, none⟩) (blk_far (p := ⟨gx, 0, none⟩) (HBX.out) (show _ ≠ gx from Nat.ne_of_lt HGX.out) _) (show _ ≠ gx from Nat.ne_of_lt HGX.out) _) (show _ ≠ gx from Nat.ne_of_lt HGX.out) _) (show _ ≠ gx from Nat.ne_of_lt HGX.out) _, ⟨blk_set (blk_set (blk_set (blk_set (HBZ.out) 0 (.slice B0 a0.st.length e0_)) 1 (.slice B1 a0.ri.length e1_)) 2 (.slice B2 a0.ca.length e2_)) 3 (.slice B3 a0.su.length e3_), Own.set27 (Own.set27 (Own.set27 (Own.set27 (HOW.out) (HBZ.out) 0 _) (blk_set (HBZ.out) 0 (.slice B0 a0.st.length e0_)) 1 _) (blk_set (blk_set (HBZ.out) 0 (.slice B0 a0.st.length e0_)) 1 (.slice B1 a0.ri.length e1_)) 2 _) (blk_set (blk_set (blk_set (HBZ.out) 0 (.slice B0 a0.st.length e0_)) 1 (.slice B1 a0.ri.length e1_)) 2 (.slice B2 a0.ca.length e2_)) 3 _, Nat.le_of_lt HGX.out⟩⟩); clear c0 f0 c1 f1 c2 f2 c3 f3 HOW HBZ HB HBX; rintro w7_ ⟨k0_, k1_, k2_⟩; have HB := Aside0.mk k0_; have HBX := Aside0.mk k1_; have CX := Aside0.mk k2_; clear k0_ k1_ k2_; have x0_ : w7_.cell? ⟨gx, 0, none⟩ = some (.slice B0 a0.st.length e0_) := blk_cell CX.out.box 0; obtain ⟨q, hq, hqb, hqc, hqf, hqs⟩ := CX.out.st pa HP.out.1.1 HP.out.1.2; have hq' : B0 = some ⟨q, 0, none⟩ := hq; subst hq'; clear hq; have HNQ := Aside0.mk (Kd.R_ne CX.out.own.r0 HBX.out (by decide)); have p0 := HP.out.1.1; have p1 := HP.out.1.2) | ((with_reducible refine gate_st (p := 49) rfl ?_); have c0 := hqc 3 _ rfl; have f0 := hqf 3; refine put_ev (p := 49) (w1 := w7_.setCell ⟨q, pa.toNat * 4 + 3, none⟩ (.int .i64 2)) (fun x_ => Below w.heap.size w x_ ∧ x_.heap[w.heap.size]? = some (.cells #[.slice a0.A0 a0.st.length a0.c0, .slice a0.A1 a0.ri.length a0.c1, .slice a0.A2 a0.ca.length a0.c2, .slice a0.A3 a0.su.length a0.c3] 27 (0, 0)) ∧ Cp ⟨a0.st.set pa.toNat ⟨(rd_T65 a0.st pa).f0, (rd_T65 a0.st pa).f1, (rd_T65 a0.st pa).f2, 2⟩, a0.ri, a0.ca, a0.su, (some ⟨q, 0, none⟩), B1, B2, B3, e0_, e1_, e2_, e3_⟩ gx w.heap.size x_) rfl rfl rfl ?hr ?hF ?_; (case hr => first | (go_simp; done) | (go_simp; rfl)); (case hF => exact ⟨below_set HB.out hqb, blk_far (p := ⟨q, pa.toNat * 4 + 3, none⟩) HBX.out (fun e => HNQ.out (congrArg some e)) _, hqs 3 _ ⟨(rd_T65 a0.st pa).f0, (rd_T65 a0.st pa).f1, (rd_T65 a0.st pa).f2, 2⟩ (by decide) rfl⟩); clear c0 f0 x0_ hqc hqf hqs HB HBX CX HNQ; rintro w8_ ⟨k0_, k1_, k2_⟩; have HB := Aside0.mk k0_; have HBX := Aside0.mk k1_; have CX := Aside0.mk k2_; clear k0_ k1_ k2_; have d0 := (blk_cell HBX.out 0).trans rfl; have d1 := (blk_cell HBX.out 1).trans rfl; have d2 := (blk_cell HBX.out 2).trans rfl; have d3 := (blk_cell HBX.out 3).trans rfl; obtain ⟨X, hX⟩ : ∃ X : Rv, X = ⟨a0.st.set pa.toNat ⟨(rd_T65 a0.st pa).f0, (rd_T65 a0.st pa).f1, (rd_T65 a0.st pa).f2, 2⟩, a0.ri, a0.ca, a0.su, (some ⟨q, 0, none⟩), B1, B2, B3, e0_, e1_, e2_, e3_⟩ := ⟨_, rfl⟩; rw [← hX] at CX; have HX := Aside0.mk (two_x (R := a0) (X := X) (a := pa) (k := ck) (h := ch) HC.out HF.out HAT.out (by rw [hX]) (by rw [hX]) (by rw [hX]) (by rw [hX])); clear hX; have x0_ := CX.out.x0; have x1_ := CX.out.x1; have x2_ := CX.out.x2; have x3_ := CX.out.x3))
    refine (lland_c a0 _ (HI.out.below HB.out) HF.out).mono ?_
    rintro e w9_ ⟨L, rfl, hO, hL, hb_⟩
    replace HB := Aside0.mk (bt HB.out hb_)
    replace HBX := Aside0.mk (blk_below HBX.out hb_)
    replace CX := Aside0.mk (CX.out.below hb_)
    clear x0_ x1_ x2_ x3_
    clear d0 d1 d2 d3
    clear hb_
    have d0 := (blk_cell HBX.out 0).trans rfl
    have d1 := (blk_cell HBX.out 1).trans rfl
    have d2 := (blk_cell HBX.out 2).trans rfl
    have d3 := (blk_cell HBX.out 3).trans rfl
    have x0_ := CX.out.x0
    have x1_ := CX.out.x1
    have x2_ := CX.out.x2
    have x3_ := CX.out.x3
    have HO := Aside0.mk hO
    have HL := Aside0.mk hL
    clear hO hL
    go_wp2_with fail
    refine (of_reach HO.out HL.out pa ck ch).mono ?_
    rintro e w10_ ⟨Ar, cr, rfl, hY, hb_⟩
    replace HB := Aside0.mk (bt HB.out hb_)
    replace HBX := Aside0.mk (blk_below HBX.out hb_)
    replace CX := Aside0.mk (CX.out.below hb_)
    clear x0_ x1_ x2_ x3_
    clear d0 d1 d2 d3
    clear hb_
    have d0 := (blk_cell HBX.out 0).trans rfl
    have d1 := (blk_cell HBX.out 1).trans rfl
    have d2 := (blk_cell HBX.out 2).trans rfl
    have d3 := (blk_cell HBX.out 3).trans rfl
    have x0_ := CX.out.x0
    have x1_ := CX.out.x1
    have x2_ := CX.out.x2
    have x3_ := CX.out.x3
    have HE := Aside0.mk (reach_at HC.out HAT.out)
    rw [HE.out] at hY
    rw [HE.out]
    have HR := Aside0.mk hY
    clear hY HE HO HL
    go_wp2_with fail
    refine (lland_c X _ CX.out.own.inn HX.out.1).mono ?_
    rintro e w11_ ⟨L, rfl, hO, hL, hb_⟩
    replace HB := Aside0.mk (bt HB.out hb_)
    replace HBX := Aside0.mk (blk_below HBX.out hb_)
    replace HR := Aside0.mk (Kd.C_below HR.out hb_)
    replace CX := Aside0.mk (CX.out.below hb_)
    clear x0_ x1_ x2_ x3_
    clear d0 d1 d2 d3
    clear hb_
    have d0 := (blk_cell HBX.out 0).trans rfl
    have d1 := (blk_cell HBX.out 1).trans rfl
    have d2 := (blk_cell HBX.out 2).trans rfl
    have d3 := (blk_cell HBX.out 3).trans rfl
    have x0_ := CX.out.x0
    have x1_ := CX.out.x1
    have x2_ := CX.out.x2
    have x3_ := CX.out.x3
    have HO := Aside0.mk hO
    have HL := Aside0.mk hL
    clear hO hL
    go_wp2_with fail
    refine (of_reach HO.out HL.out pa ck ch).mono ?_
    rintro e w12_ ⟨As, cs, rfl, hY, hb_⟩
    replace HB := Aside0.mk (bt HB.out hb_)
    replace HBX := Aside0.mk (blk_below HBX.out hb_)
    replace HR := Aside0.mk (Kd.C_below HR.out hb_)
    replace CX := Aside0.mk (CX.out.below hb_)
    clear x0_ x1_ x2_ x3_
    clear d0 d1 d2 d3
    clear hb_
    have d0 := (blk_cell HBX.out 0).trans rfl
    have d1 := (blk_cell HBX.out 1).trans rfl
    have d2 := (blk_cell HBX.out 2).trans rfl
    have d3 := (blk_cell HBX.out 3).trans rfl
    have x0_ := CX.out.x0
    have x1_ := CX.out.x1
    have x2_ := CX.out.x2
    have x3_ := CX.out.x3
    rw [HX.out.2.1] at hY
    rw [HX.out.2.1]
    have HS := Aside0.mk hY
    clear hY HO HL
    go_wp2_with fail
    refine (lland_c a0 _ (HI.out.below HB.out) HF.out).mono ?_
    rintro e w13_ ⟨L, rfl, hO, hL, hb_⟩
    replace HB := Aside0.mk (bt HB.out hb_)
    replace HBX := Aside0.mk (blk_below HBX.out hb_)
    replace HR := Aside0.mk (Kd.C_below HR.out hb_)
    replace HS := Aside0.mk (Kd.C_below HS.out hb_)
    replace CX := Aside0.mk (CX.out.below hb_)
    clear x0_ x1_ x2_ x3_
    clear d0 d1 d2 d3
    clear hb_
    have d0 := (blk_cell HBX.out 0).trans rfl
    have d1 := (blk_cell HBX.out 1).trans rfl
    have d2 := (blk_cell HBX.out 2).trans rfl
    have d3 := (blk_cell HBX.out 3).trans rfl
    have x0_ := CX.out.x0
    have x1_ := CX.out.x1
    have x2_ := CX.out.x2
    have x3_ := CX.out.x3
    have HO := Aside0.mk hO
    have HL := Aside0.mk hL
    clear hO hL
    go_wp2_with fail
    refine (of_why HO.out HL.out pa pb ck ch).mono ?_
    rintro e w14_ ⟨rfl, hb_⟩
    replace HB := Aside0.mk (bt HB.out hb_)
    replace HBX := Aside0.mk (blk_below HBX.out hb_)
    replace HR := Aside0.mk (Kd.C_below HR.out hb_)
    replace HS := Aside0.mk (Kd.C_below HS.out hb_)
    replace CX := Aside0.mk (CX.out.below hb_)
    clear x0_ x1_ x2_ x3_
    clear d0 d1 d2 d3
    clear hb_
    have d0 := (blk_cell HBX.out 0).trans rfl
    have d1 := (blk_cell HBX.out 1).trans rfl
    have d2 := (blk_cell HBX.out 2).trans rfl
    have d3 := (blk_cell HBX.out 3).trans rfl
    have x0_ := CX.out.x0
    have x1_ := CX.out.x1
    have x2_ := CX.out.x2
    have x3_ := CX.out.x3
    have HWE := Aside0.mk (why_ok HC.out HQ.out)
    rw [HWE.out]
    clear HO HL HWE
    have T1 := Aside0.mk ((within_one (p := fun t => canF a0.lv pa t ck ch) (n := a0.lv.st.length) HAT.out.t0 HAT.out.t1).trans (can_why HP.out.2.2))
    have T2 := Aside0.mk ((within_one (p := fun t => canF a0.lv pa t ck ch) (n := a0.lv.st.length) HAT.out.f0 HAT.out.f1).trans can_self)
    have T3 := Aside0.mk HX.out.2.2
    generalize filK (fun t => canF a0.lv pa t ck ch) a0.lv.st.length = rs at *
    generalize filK (fun t => canF X.lv pa t ck ch) X.lv.st.length = ss at *
    have lr := HR.out.2.1
    have ls := HS.out.2.1
    generalize (whyF a0.lv pa pb ck ch).1 = c at *
    by_cases hc0 : c = 0
    · subst hc0
      replace T1 := Aside0.mk (T1.out.trans (decide_eq_true rfl))
      go_wp2_with fail
      have hl : Kd.C (Kd.int .i64) (w14_.alloc (.cells #[.int .i64 pb] 3)) (some ⟨w14_.heap.size, 0, none⟩) 1 [pb] := C_flat (α := Int) (d := Kd.int .i64) (blk_new w14_ _) (fun n => [.int .i64 n]) (by show 1 ≤ _; omega) rfl (fun _ => rfl)
      have hbn := b1 w14_ (.cells #[.int .i64 pb] 3)
      refine (within_l (some ⟨w14_.heap.size, 0, none⟩) Ar 1 cr [pb] rs _ hl (Kd.C_below HR.out hbn)).mono ?_
      rintro e w15_ ⟨rfl, hb_⟩
      replace HB := Aside0.mk (bt HB.out (bt hbn hb_))
      replace HBX := Aside0.mk (blk_below HBX.out (bt hbn hb_))
      replace HR := Aside0.mk (Kd.C_below HR.out (bt hbn hb_))
      replace HS := Aside0.mk (Kd.C_below HS.out (bt hbn hb_))
      replace CX := Aside0.mk (CX.out.below (bt hbn hb_))
      clear x0_ x1_ x2_ x3_
      clear d0 d1 d2 d3
      clear hl hbn hb_
      rw [T1.out]
      have d0 := (blk_cell HBX.out 0).trans rfl
      have d1 := (blk_cell HBX.out 1).trans rfl
      have d2 := (blk_cell HBX.out 2).trans rfl
      have d3 := (blk_cell HBX.out 3).trans rfl
      have x0_ := CX.out.x0
      have x1_ := CX.out.x1
      have x2_ := CX.out.x2
      have x3_ := CX.out.x3
      go_wp2_with fail
      have hl : Kd.C (Kd.int .i64) (w15_.alloc (.cells #[.int .i64 pa] 3)) (some ⟨w15_.heap.size, 0, none⟩) 1 [pa] := C_flat (α := Int) (d := Kd.int .i64) (blk_new w15_ _) (fun n => [.int .i64 n]) (by show 1 ≤ _; omega) rfl (fun _ => rfl)
      have hbn := b1 w15_ (.cells #[.int .i64 pa] 3)
      refine (within_l (some ⟨w15_.heap.size, 0, none⟩) Ar 1 cr [pa] rs _ hl (Kd.C_below HR.out hbn)).mono ?_
      rintro e w16_ ⟨rfl, hb_⟩
      replace HB := Aside0.mk (bt HB.out (bt hbn hb_))
      replace HBX := Aside0.mk (blk_below HBX.out (bt hbn hb_))
      replace HR := Aside0.mk (Kd.C_below HR.out (bt hbn hb_))
      replace HS := Aside0.mk (Kd.C_below HS.out (bt hbn hb_))
      replace CX := Aside0.mk (CX.out.below (bt hbn hb_))
      clear x0_ x1_ x2_ x3_
      clear d0 d1 d2 d3
      clear hl hbn hb_
      rw [T2.out]
      have d0 := (blk_cell HBX.out 0).trans rfl
      have d1 := (blk_cell HBX.out 1).trans rfl
      have d2 := (blk_cell HBX.out 2).trans rfl
      have d3 := (blk_cell HBX.out 3).trans rfl
      have x0_ := CX.out.x0
      have x1_ := CX.out.x1
      have x2_ := CX.out.x2
      have x3_ := CX.out.x3
      go_wp2_with fail
      refine (within_l Ar As cr cs rs ss _ HR.out HS.out).mono ?_
      rintro e w17_ ⟨rfl, hb_⟩
      replace HB := Aside0.mk (bt HB.out hb_)
      replace HBX := Aside0.mk (blk_below HBX.out hb_)
      replace HR := Aside0.mk (Kd.C_below HR.out hb_)
      replace HS := Aside0.mk (Kd.C_below HS.out hb_)
      replace CX := Aside0.mk (CX.out.below hb_)
      clear x0_ x1_ x2_ x3_
      clear d0 d1 d2 d3
      clear hb_
      rw [T3.out]
      go_wp2_with fail
      refine (awake_c _).mono ?_
      rintro e w18_ ⟨rfl, hb_⟩
      replace HB := Aside0.mk (bt HB.out hb_)
      replace HBX := Aside0.mk (blk_below HBX.out hb_)
      replace HR := Aside0.mk (Kd.C_below HR.out hb_)
      replace HS := Aside0.mk (Kd.C_below HS.out hb_)
      replace CX := Aside0.mk (CX.out.below hb_)
      clear hb_
      go_wp2_with fail
      go_ret
      exact ⟨ret_bool rfl, HB.out⟩
    · replace T1 := Aside0.mk (T1.out.trans (decide_eq_false hc0))
      have hcc : (c == 0) = false := by simp [hc0]
      go_wp2_with fail
      have hl : Kd.C (Kd.int .i64) (w14_.alloc (.cells #[.int .i64 pb] 3)) (some ⟨w14_.heap.size, 0, none⟩) 1 [pb] := C_flat (α := Int) (d := Kd.int .i64) (blk_new w14_ _) (fun n => [.int .i64 n]) (by show 1 ≤ _; omega) rfl (fun _ => rfl)
      have hbn := b1 w14_ (.cells #[.int .i64 pb] 3)
      refine (within_l (some ⟨w14_.heap.size, 0, none⟩) Ar 1 cr [pb] rs _ hl (Kd.C_below HR.out hbn)).mono ?_
      rintro e w15_ ⟨rfl, hb_⟩
      replace HB := Aside0.mk (bt HB.out (bt hbn hb_))
      replace HBX := Aside0.mk (blk_below HBX.out (bt hbn hb_))
      replace HR := Aside0.mk (Kd.C_below HR.out (bt hbn hb_))
      replace HS := Aside0.mk (Kd.C_below HS.out (bt hbn hb_))
      replace CX := Aside0.mk (CX.out.below (bt hbn hb_))
      clear x0_ x1_ x2_ x3_
      clear d0 d1 d2 d3
      clear hl hbn hb_
      rw [T1.out]
      have d0 := (blk_cell HBX.out 0).trans rfl
      have d1 := (blk_cell HBX.out 1).trans rfl
      have d2 := (blk_cell HBX.out 2).trans rfl
      have d3 := (blk_cell HBX.out 3).trans rfl
      have x0_ := CX.out.x0
      have x1_ := CX.out.x1
      have x2_ := CX.out.x2
      have x3_ := CX.out.x3
      go_wp2_with fail
      have hl : Kd.C (Kd.int .i64) (w15_.alloc (.cells #[.int .i64 pa] 3)) (some ⟨w15_.heap.size, 0, none⟩) 1 [pa] := C_flat (α := Int) (d := Kd.int .i64) (blk_new w15_ _) (fun n => [.int .i64 n]) (by show 1 ≤ _; omega) rfl (fun _ => rfl)
      have hbn := b1 w15_ (.cells #[.int .i64 pa] 3)
      refine (within_l (some ⟨w15_.heap.size, 0, none⟩) Ar 1 cr [pa] rs _ hl (Kd.C_below HR.out hbn)).mono ?_
      rintro e w16_ ⟨rfl, hb_⟩
      replace HB := Aside0.mk (bt HB.out (bt hbn hb_))
      replace HBX := Aside0.mk (blk_below HBX.out (bt hbn hb_))
      replace HR := Aside0.mk (Kd.C_below HR.out (bt hbn hb_))
      replace HS := Aside0.mk (Kd.C_below HS.out (bt hbn hb_))
      replace CX := Aside0.mk (CX.out.below (bt hbn hb_))
      clear x0_ x1_ x2_ x3_
      clear d0 d1 d2 d3
      clear hl hbn hb_
      rw [T2.out]
      have d0 := (blk_cell HBX.out 0).trans rfl
      have d1 := (blk_cell HBX.out 1).trans rfl
      have d2 := (blk_cell HBX.out 2).trans rfl
      have d3 := (blk_cell HBX.out 3).trans rfl
      have x0_ := CX.out.x0
      have x1_ := CX.out.x1
      have x2_ := CX.out.x2
      have x3_ := CX.out.x3
      go_wp2_with fail
      refine (within_l Ar As cr cs rs ss _ HR.out HS.out).mono ?_
      rintro e w17_ ⟨rfl, hb_⟩
      replace HB := Aside0.mk (bt HB.out hb_)
      replace HBX := Aside0.mk (blk_below HBX.out hb_)
      replace HR := Aside0.mk (Kd.C_below HR.out hb_)
      replace HS := Aside0.mk (Kd.C_below HS.out hb_)
      replace CX := Aside0.mk (CX.out.below hb_)
      clear x0_ x1_ x2_ x3_
      clear d0 d1 d2 d3
      clear hb_
      rw [T3.out]
      go_wp2_with fail
      refine (awake_c _).mono ?_
      rintro e w18_ ⟨rfl, hb_⟩
      replace HB := Aside0.mk (bt HB.out hb_)
      replace HBX := Aside0.mk (blk_below HBX.out hb_)
      replace HR := Aside0.mk (Kd.C_below HR.out hb_)
      replace HS := Aside0.mk (Kd.C_below HS.out hb_)
      replace CX := Aside0.mk (CX.out.below hb_)
      clear hb_
      go_wp2_with fail
      go_ret
      exact ⟨ret_bool rfl, HB.out⟩
end Go.Proofs.Ytkbdphjnpieceaa.G
