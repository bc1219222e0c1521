/- HillOver holds: for every input the call returns true, and each argument reads afterwards as it read before; no condition. -/
import Derived.Test.YtkbdphjnpieceaaRows
import Derived.WalkKit
import Derived.ProofKit
import Derived.OpenShut
import Derived.ShutString
import Derived.ChangeOld
import Derived.Below
import Derived.SizedLaws
import Derived.Test.YtkbdphjnpieceaaC3
import Derived.Test.YtkbdphjnpieceaaP4
namespace Go.Proofs.Ytkbdphjnpieceaa.G
open Go.RowKit Go.Proofs.YtkbdphjnpieceaaW.PrintWords Go.Proofs.YtkbdphjnpieceaaW.PrintLast Go.Proofs.YtkbdphjnpieceaaW.PrintMore
set_option linter.unusedVariables false
set_option linter.unusedSimpArgs false
open Go.Sort (grow)
theorem blk_ne {W : World} {g q t t' : Nat} {c c' : Array Value} (h : W.heap[g]? = some (.cells c t (0, 0))) (h' : W.heap[q]? = some (.cells c' t' (0, 0))) (ht : t ≠ t') : g ≠ q := by
  rintro rfl
  rw [h] at h'
  injection h' with h'
  injection h' with _ h'
  exact ht h'
theorem rd_L3_mem {ca : List (List S61)} {i : Int} (h0 : 0 ≤ i) (h1 : i < ca.length) : rd_L3 ca i ∈ ca := by
  unfold rd_L3
  rw [List.getD_eq_getElem?_getD, List.getElem?_eq_getElem (by omega : i.toNat < ca.length)]
  exact List.getElem_mem _
theorem rd_L3_set {ca : List (List S61)} {i : Int} (h0 : 0 ≤ i) (h1 : i < ca.length) (x : List S61) : rd_L3 (ca.set i.toNat x) i = x := by
  unfold rd_L3
  rw [getD_set_, if_pos ⟨rfl, by omega⟩]
theorem setCell_size (W : World) (p : Addr) (u : Value) : (W.setCell p u).heap.size = W.heap.size := by simp
theorem ask_len {L M : Lv} {f t k h : Int} (h0 : M.st.length = L.st.length) (h1 : M.ca.length = L.ca.length) (h2 : M.su.length = L.su.length) : M.ask f t k h = L.ask f t k h := by unfold Lv.ask; rw [h0, h1, h2]
theorem few_set {R Y : Rv} {k : Int} {x : List S61} (hF : R.Few) (hs : Y.st = R.st) (hr : Y.ri.length ≤ 1000) (hu : Y.su = R.su) (hc : Y.ca = R.ca.set k.toNat x) (hx : x.length ≤ 1000) : Y.Few := by
  refine ⟨by rw [hs]; exact hF.s, hr, by rw [hu]; exact hF.u, by rw [hc, List.length_set]; exact hF.c, fun j hj => ?_⟩
  rw [hc, getD_set_]
  split
  · exact hx
  · exact hF.cc j (by rw [hc, List.length_set] at hj; exact hj)
/-- If the added cloud blocks, it is neither lower nor higher than both stations. -/
theorem over_x {R Y : Rv} {a b k : Int} {c : S61} (h0 : 0 ≤ k) (h1 : k < R.ca.length) (hs : Y.st = R.st) (hc : Y.ca = R.ca.set k.toNat (rd_L3 R.ca k ++ [c])) (h : withinB [((rd_L3 R.ca k).length : Int)] (cloudsL Y.lv a b k 0) = true) :
    min (rd_T65 R.st a).f2 (rd_T65 R.st b).f2 ≤ c.f0.f5 ∧ c.f0.f4 ≤ max (rd_T65 R.st a).f2 (rd_T65 R.st b).f2 := by
  have e : rd_L9 Y.lv.ca k = (rd_L3 R.ca k ++ [c]).map cCl := by rw [lv_ca, hc, rd_L3_set h0 h1]
  have h2 := (within_one (p := clB Y.lv a b k 0) (n := (rd_L9 Y.lv.ca k).length) (t := ((rd_L3 R.ca k).length : Int)) (by omega) (by rw [e, List.length_map, List.length_append, List.length_singleton]; omega)).symm.trans h
  unfold clB at h2
  rw [Bool.and_eq_true] at h2
  have h3 := h2.2
  have e2 : rd_T88 (rd_L9 Y.lv.ca k) ((rd_L3 R.ca k).length : Int) = cCl c := by
    rw [e]
    unfold rd_T88
    rw [Int.toNat_natCast, List.getD_eq_getElem?_getD, List.getElem?_map, List.getElem?_append_right (Nat.le_refl _), Nat.sub_self]
    rfl
  rw [e2, lv_st, lv_st, hs] at h3
  exact block_over h3
def over.T6 : Bool × List (List Nat × List Nat) := (true, [([], []), ([0], [0]), ([], []), ([], []), ([3], [3]), ([], []), ([4, 5], [4, 5]), ([6], [6]), ([], []), ([], []), ([9], [9]), ([10], [10]), ([11], [11]), ([8, 12], [8, 12]), ([13], [13]), ([7, 14], [7, 14]), ([1, 2, 0, 1, 2, 3, 4, 5, 6, 7, 8, 9, 10, 11, 12, 13, 14, 15], [1, 2]), ([16, 15, 15, 0, 1, 2, 3, 4, 5, 6, 7, 8, 9, 10, 11, 12, 13, 14, 15], [15, 16])])
def over.B6 : List Nat := [0, 1, 0, 0, 8, 0, 56, 120, 0, 0, 512, 1536, 3584, 7936, 16128, 32760, 65535, 131071]
theorem over.tab6 : rtab .any (opsOf Try.f15 6) = over.T6 := by kernel_rfl
theorem over.bits6 : waitsOk over.T6.2 over.B6 = true := by kernel_rfl
def over.T12 : Bool × List (List Nat × List Nat) := (true, [([], []), ([0], [0]), ([], []), ([1, 2], [1, 2]), ([3], [3]), ([4], [4]), ([], []), ([6], [6]), ([], []), ([7, 8], [7, 8]), ([9], [9]), ([10], [10]), ([5, 11], [5, 11]), ([], []), ([13], [13]), ([], []), ([14, 15], [14, 15]), ([16], [16]), ([17], [17]), ([], []), ([19], [19]), ([], []), ([20, 21], [20, 21]), ([22], [22]), ([23], [23]), ([18, 24], [18, 24]), ([12, 0, 1, 2, 3, 4, 5, 6, 7, 8, 9, 10, 11, 12], [12]), ([25, 26, 0, 1, 2, 3, 4, 5, 6, 7, 8, 9, 10, 11, 12, 13, 14, 15, 16, 17, 18, 19, 20, 21, 22, 23, 24, 25, 26], [25])])
def over.B12 : List Nat := [0, 1, 0, 7, 15, 31, 0, 64, 0, 448, 960, 1984, 4095, 0, 8192, 0, 57344, 122880, 253952, 0, 524288, 0, 3670016, 7864320, 16252928, 33546240, 8191, 134217727]
theorem over.tab12 : rtab .any (opsOf Try.f15 12) = over.T12 := by kernel_rfl
theorem over.bits12 : waitsOk over.T12.2 over.B12 = true := by kernel_rfl
set_option maxHeartbeats 8000000 in
set_option maxRecDepth 100000 in
theorem hillOver_c (a0 : Rv) (a1 : Int) (a2 : Int) (a3 : S55) (w : World) (h0 : a0.In w) (h1 : (Lit.int .u8 a1).wf = true) (h2 : (Lit.int .u8 a2).wf = true) :
    Calls Try.prog 15 #[.agg a0.cells, .int .u8 a1, .int .u8 a2, .agg #[.int .i64 a3.f0, .int .i64 a3.f1, .int .i64 a3.f2, .int .i64 a3.f3, .int .i64 a3.f4, .int .i64 a3.f5]] w fun e w' => e = .returned (.bool true) ∧ Below w.heap.size w w' := by
  have HI := Aside0.mk h0
  have HB := Aside0.mk (below_alloc (b1 w (.cells a0.cells 27)) (.cells #[.int .i64 a3.f0, .int .i64 a3.f1, .int .i64 a3.f2, .int .i64 a3.f3, .int .i64 a3.f4, .int .i64 a3.f5] 55))
  have HBX := Aside0.mk (blk_alloc (blk_new w (.cells a0.cells 27)) (.cells #[.int .i64 a3.f0, .int .i64 a3.f1, .int .i64 a3.f2, .int .i64 a3.f3, .int .i64 a3.f4, .int .i64 a3.f5] 55))
  have HBV := Aside0.mk (show ((w.alloc (.cells a0.cells 27)).alloc (.cells #[.int .i64 a3.f0, .int .i64 a3.f1, .int .i64 a3.f2, .int .i64 a3.f3, .int .i64 a3.f4, .int .i64 a3.f5] 55)).heap[w.heap.size + 1]? = some (.cells #[.int .i64 a3.f0, .int .i64 a3.f1, .int .i64 a3.f2, .int .i64 a3.f3, .int .i64 a3.f4, .int .i64 a3.f5] 55 (0, 0)) from by have h_ := blk_new (w.alloc (.cells a0.cells 27)) (.cells #[.int .i64 a3.f0, .int .i64 a3.f1, .int .i64 a3.f2, .int .i64 a3.f3, .int .i64 a3.f4, .int .i64 a3.f5] 55); simpa using h_)
  have l0 := h0.r0.2.1
  have l1 := h0.r1.2.1
  have l2 := h0.r2.2.1
  have l3 := h0.r3.2.1
  clear h0
  simp only [Rv.cells] at *
  by_cases hth : a0.rdy = true
  rotate_left
  · have HT : Aside0 (a0.rdy = false) := ⟨by simpa using hth⟩
    clear hth
    go_enter Try.func15, Try.ntmps15
    have d0 := (blk_cell HBX.out 0).trans rfl
    have d1 := (blk_cell HBX.out 1).trans rfl
    have d2 := (blk_cell HBX.out 2).trans rfl
    have d3 := (blk_cell HBX.out 3).trans rfl
    go_wp2_with fail
    refine (ready_c a0 _ (HI.out.below HB.out)).mono ?_
    rintro e w1_ ⟨rfl, hb_⟩
    replace HB := Aside0.mk (bt HB.out hb_)
    replace HBX := Aside0.mk (blk_below HBX.out hb_)
    replace HBV := Aside0.mk (blk_below HBV.out hb_)
    clear d0 d1 d2 d3
    clear hb_
    have d0 := (blk_cell HBX.out 0).trans rfl
    have d1 := (blk_cell HBX.out 1).trans rfl
    have d2 := (blk_cell HBX.out 2).trans rfl
    have d3 := (blk_cell HBX.out 3).trans rfl
    rw [HT.out]
    go_wp2_with fail
    refine (awake_c _).mono ?_
    rintro e w2_ ⟨rfl, hb_⟩
    replace HB := Aside0.mk (bt HB.out hb_)
    replace HBX := Aside0.mk (blk_below HBX.out hb_)
    replace HBV := Aside0.mk (blk_below HBV.out hb_)
    clear d0 d1 d2 d3
    clear hb_
    go_wp2_with fail
    go_ret
    exact ⟨ret_bool rfl, HB.out⟩
  have HT := Aside0.mk hth
  have HF := Aside0.mk (rdy_of hth).1
  have HC := Aside0.mk (rdy_of hth).2.1
  have HLEN := Aside0.mk (rdy_of hth).2.2
  clear hth
  obtain ⟨hs2, hs6, hr6, hc1, hc4, hu1, hu12⟩ := HLEN.out
  go_enter Try.func15, Try.ntmps15
  have d0 := (blk_cell HBX.out 0).trans rfl
  have d1 := (blk_cell HBX.out 1).trans rfl
  have d2 := (blk_cell HBX.out 2).trans rfl
  have d3 := (blk_cell HBX.out 3).trans rfl
  go_wp2_with fail
  refine (ready_c a0 _ (HI.out.below HB.out)).mono ?_
  rintro e w3_ ⟨rfl, hb_⟩
  replace HB := Aside0.mk (bt HB.out hb_)
  replace HBX := Aside0.mk (blk_below HBX.out hb_)
  replace HBV := Aside0.mk (blk_below HBV.out hb_)
  clear d0 d1 d2 d3
  clear hb_
  have d0 := (blk_cell HBX.out 0).trans rfl
  have d1 := (blk_cell HBX.out 1).trans rfl
  have d2 := (blk_cell HBX.out 2).trans rfl
  have d3 := (blk_cell HBX.out 3).trans rfl
  rw [HT.out]
  go_wp2_with fail
  have HCC := Aside0.mk (cases_few HC.out)
  have q2 := u8_bd h2
  refine (pair_c a0 a1 _ hs2 (by omega) h1).mono ?_
  rintro e w4_ ⟨rfl, hb_⟩
  replace HB := Aside0.mk (bt HB.out hb_)
  replace HBX := Aside0.mk (blk_below HBX.out hb_)
  replace HBV := Aside0.mk (blk_below HBV.out hb_)
  clear d0 d1 d2 d3
  clear hb_
  have d0 := (blk_cell HBX.out 0).trans rfl
  have d1 := (blk_cell HBX.out 1).trans rfl
  have d2 := (blk_cell HBX.out 2).trans rfl
  have d3 := (blk_cell HBX.out 3).trans rfl
  have HP := Aside0.mk (pair_bd (n := (a0.st.length : Int)) (q := a1) (by omega) (u8_bd h1).1)
  generalize pairA a0.st.length a1 = pa at *
  generalize pairB a0.st.length a1 = pb at *
  go_wp2_with fail
  have HK := Aside0.mk (mod_bd (q := a2) hc1)
  generalize a2 % (a0.ca.length : Int) = ck at *
  clear q2
  refine (copied_v a0 _ (HI.out.below HB.out) (by omega) (by omega) (by omega) HCC.out (by omega)).mono ?_
  rintro e w5_ ⟨B0, e0_, B1, e1_, B2, e2_, B3, e3_, rfl, hOw, hb_⟩
  have HOW := Aside0.mk (Own.lower hOw HB.out.size)
  replace HB := Aside0.mk (bt HB.out hb_)
  replace HBX := Aside0.mk (blk_below HBX.out hb_)
  replace HBV := Aside0.mk (blk_below HBV.out hb_)
  clear d0 d1 d2 d3
  clear hOw hb_
  go_wp2_with (first | ((with_reducible refine gate_dst (N := 12) rfl ?_); refine box_event ?hg (N := 12) ?hd (cs := #[.slice none 0 0, .slice none 0 0, .slice none 0 0, .slice none 0 0]) (t := 27) ?hr ?_; (case hd => rfl); (case hg => rfl); (case hr => first | (go_simp; done) | (go_simp; rfl)); intro gx hg_ w6_ hbox_ hb_; have HGX := Aside0.mk (show w.heap.size < gx from by rw [hg_]; exact blk_lt HBX.out); have HGV := Aside0.mk (show w.heap.size + 1 < gx from by rw [hg_]; exact blk_lt HBV.out); replace HB := Aside0.mk (bt HB.out hb_); replace HBX := Aside0.mk (blk_below HBX.out hb_); replace HBV := Aside0.mk (blk_below HBV.out hb_); replace HOW := Aside0.mk (HOW.out.below hb_); have HBZ := Aside0.mk hbox_; clear hbox_ hb_ hg_) | ((with_reducible refine gate_st (p := 12) rfl ?_); have c0 := (blk_cell (HBZ.out) 0).trans rfl; have f0 := blk_frozen (HBZ.out) 0; have c1 := (blk_cell (blk_set (HBZ.out) 0 (.slice B0 a0.st.length e0_)) 1).trans rfl; have f1 := blk_frozen (blk_set (HBZ.out) 0 (.slice B0 a0.st.length e0_)) 1; have c2 := (blk_cell (blk_set (blk_set (HBZ.out) 0 (.slice B0 a0.st.length e0_)) 1 (.slice B1 a0.ri.length e1_)) 2).trans rfl; have f2 := blk_frozen (blk_set (blk_set (HBZ.out) 0 (.slice B0 a0.st.length e0_)) 1 (.slice B1 a0.ri.length e1_)) 2; have c3 := (blk_cell (blk_set (blk_set (blk_set (HBZ.out) 0 (.slice B0 a0.st.length e0_)) 1 (.slice B1 a0.ri.length e1_)) 2 (.slice B2 a0.ca.length e2_)) 3).trans rfl; have f3 := blk_frozen (blk_set (blk_set (blk_set (HBZ.out) 0 (.slice B0 a0.st.length e0_)) 1 (.slice B1 a0.ri.length e1_)) 2 (.slice B2 a0.ca.length e2_)) 3; refine put_ev (p := 12) (w1 := ((((w6_.setCell ⟨gx, 0, none⟩ (.slice B0 a0.st.length e0_)).setCell ⟨gx, 1, none⟩ (.slice B1 a0.ri.length e1_)).setCell ⟨gx, 2, none⟩ (.slice B2 a0.ca.length e2_)).setCell ⟨gx, 3, none⟩ (.slice B3 a0.su.length e3_))) (fun x_ => Below w.heap.size w x_ ∧ x_.heap[w.heap.size]? = some (.cells #[.slice a0.A0 a0.st.length a0.c0, .slice a0.A1 a0.ri.length a0.c1, .slice a0.A2 a0.ca.length a0.c2, .slice a0.A3 a0.su.length a0.c3] 27 (0, 0)) ∧ x_.heap[w.heap.size + 1]? = some (.cells #[.int .i64 a3.f0, .int .i64 a3.f1, .int .i64 a3.f2, .int .i64 a3.f3, .int .i64 a3.f4, .int .i64 a3.f5] 55 (0, 0)) ∧ Cp ⟨a0.st, a0.ri, a0.ca, a0.su, B0, B1, B2, B3, e0_, e1_, e2_, e3_⟩ gx w.heap.size x_) rfl rfl rfl ?hr ?hF ?_; (case hr => first | (go_simp; done) | (go_simp; rfl)); (case hF => exact ⟨below_set (below_set (below_set (below_set (HB.out) (Nat.le_of_lt HGX.out)) (Nat.le_of_lt HGX.out)) (Nat.le_of_lt HGX.out)) (Nat.le_of_lt HGX.out), blk_far (p := ⟨gx, 3, none⟩) (blk_far (p := ⟨gx, 2, none⟩) (blk_far (p := ⟨gx, 1, none⟩) (blk_far (p := ⟨gx, 0, none⟩) (HBX.out) (show _ ≠ gx from Nat.ne_of_lt HGX.out) _) (show _ ≠ gx from Nat.ne_of_lt HGX.out) _) (show _ ≠ gx from Nat.ne_of_lt HGX.out) _) (show _ ≠ gx from Nat.ne_of_lt HGX.out) _, blk_far (p := ⟨gx, 3, none⟩) (blk_far (p := ⟨gx, 2, none⟩) (blk_far (p := ⟨gx, 1, none⟩) (blk_far (p := ⟨gx, 0, none⟩) (HBV.out) (show _ ≠ gx from Nat.ne_of_lt HGV.out) _) (show _ ≠ gx from Nat.ne_of_lt HGV.out) _) (show _ ≠ gx from Nat.ne_of_lt HGV.out) _) (show _ ≠ gx from Nat.ne_of_lt HGV.out) _, ⟨blk_set (blk_set (blk_set (blk_set (HBZ.out) 0 (.slice B0 a0.st.length e0_)) 1 (.slice B1 a0.ri.length e1_)) 2 (.slice B2 a0.ca.length e2_)) 3 (.slice B3 a0.su.length e3_), Own.set27 (Own.set27 (Own.set27 (Own.set27 (HOW.out) (HBZ.out) 0 _) (blk_set (HBZ.out) 0 (.slice B0 a0.st.length e0_)) 1 _) (blk_set (blk_set (HBZ.out) 0 (.slice B0 a0.st.length e0_)) 1 (.slice B1 a0.ri.length e1_)) 2 _) (blk_set (blk_set (blk_set (HBZ.out) 0 (.slice B0 a0.st.length e0_)) 1 (.slice B1 a0.ri.length e1_)) 2 (.slice B2 a0.ca.length e2_)) 3 _, Nat.le_of_lt HGX.out⟩⟩); clear c0 f0 c1 f1 c2 f2 c3 f3 HOW HBZ HB HBX HBV; rintro w7_ ⟨k0_, k1_, k2_, k3_⟩; have HB := Aside0.mk k0_; have HBX := Aside0.mk k1_; have HBV := Aside0.mk k2_; have CX := Aside0.mk k3_; clear k0_ k1_ k2_ k3_))
  obtain ⟨X, hX⟩ : ∃ X : Rv, X = ⟨a0.st, a0.ri, a0.ca, a0.su, B0, B1, B2, B3, e0_, e1_, e2_, e3_⟩ := ⟨_, rfl⟩
  rw [← hX] at CX
  have HXE := Aside0.mk (show X.st = a0.st ∧ X.ri = a0.ri ∧ X.ca = a0.ca ∧ X.su = a0.su from by rw [hX]; exact ⟨rfl, rfl, rfl, rfl⟩)
  have HXB := Aside0.mk (show Rv.mk X.st X.ri X.ca X.su X.A0 X.A1 X.A2 X.A3 X.c0 X.c1 X.c2 X.c3 = ⟨a0.st, a0.ri, a0.ca, a0.su, B0, B1, B2, B3, e0_, e1_, e2_, e3_⟩ from hX)
  have hk0 := HK.out.1
  have hk1 : ck < X.ca.length := by rw [HXE.out.2.2.1]; exact HK.out.2
  have HOWX := Aside0.mk (show Ow X (fun _ => True) w.heap.size w7_ from ⟨CX.out.own.r0, CX.out.own.r1, CX.out.own.r2, CX.out.own.r3⟩)
  obtain ⟨q, v, okw, hA2, hqb, _, hql, _, hw2, hR, hLt⟩ := HOWX.out.lend hk0 hk1
  obtain ⟨vA, vc, rfl⟩ := Kd.R_slice hR
  have hcl := (hLt.typed hk0 hk1).1
  have HN := Aside0.mk (show w.heap.size ≠ q ∧ w.heap.size + 1 ≠ q ∧ gx ≠ q from by obtain ⟨cells, hc⟩ := hcl; exact ⟨blk_ne HBX.out hc (by decide), blk_ne HBV.out hc (by decide), blk_ne CX.out.box hc (by decide)⟩)
  have hxl : (rd_L3 X.ca ck).length ≤ 64 := by rw [HXE.out.2.2.1]; exact HCC.out _ (rd_L3_mem hk0 HK.out.2)
  generalize hxs : rd_L3 X.ca ck = xs at *
  have HXS := Aside0.mk hxs
  clear hxs hcl HOWX hX HXB
  have HA2 := Aside0.mk hA2
  have HXX := Aside0.mk (show w7_.heap[gx]? = some (.cells #[.slice X.A0 X.st.length X.c0, .slice X.A1 X.ri.length X.c1, .slice (some ⟨q, 0, none⟩) X.ca.length X.c2, .slice X.A3 X.su.length X.c3] 27 (0, 0)) from by rw [← hA2]; exact CX.out.box)
  have HQB := Aside0.mk hqb
  have HW2 := Aside0.mk hw2
  have HRR := Aside0.mk hR
  have HLT := Aside0.mk hLt
  have hw := wr64 (n := (a0.su.length : Int) - 1) (by omega) (by omega)
  clear hA2 hqb hql hw2 hR hLt CX
  refine start_ (n := 18) (S := fun w' => True) (ds := []) #[false, false, false, false, false, false, false, false, false, false, false, false, false, false, false, false, false, false] (by kernel_rfl) rfl rfl trivial (fun hHeld => ?_)
  refine with_tabW over.tab6 over.bits6 (fun HT_ HW_ => ?_)
  have HBW := Aside0.mk (below_drew HB.out)
  have SZ := Aside0.mk (show w7_.heap.size ≤ w7_.drew.heap.size from Nat.le_refl _)
  have BX := Aside0.mk (show w7_.drew.heap[w.heap.size]? = some (.cells #[.slice a0.A0 a0.st.length a0.c0, .slice a0.A1 a0.ri.length a0.c1, .slice a0.A2 a0.ca.length a0.c2, .slice a0.A3 a0.su.length a0.c3] 27 (0, 0)) ∧ w7_.drew.heap[w.heap.size + 1]? = some (.cells #[.int .i64 a3.f0, .int .i64 a3.f1, .int .i64 a3.f2, .int .i64 a3.f3, .int .i64 a3.f4, .int .i64 a3.f5] 55 (0, 0)) ∧ w7_.drew.heap[gx]? = some (.cells #[.slice X.A0 X.st.length X.c0, .slice X.A1 X.ri.length X.c1, .slice (some ⟨q, 0, none⟩) X.ca.length X.c2, .slice X.A3 X.su.length X.c3] 27 (0, 0)) from ⟨HBX.out, HBV.out, HXX.out⟩)
  have LE := Aside0.mk (HLT.out.below (below_drew (Below.refl _ _)))
  have R44 := Aside0.mk (Kd.R_drew HRR.out)
  generalize w7_.drew = wd_ at *
  refine inv_at [0, 1, 2, 3, 4, 5, 6, 7, 8, 9, 10, 11, 12, 13, 14, 15, 16, 17] (fun a0_ b a w' => ∃ (v52_ : Value) (q51_ : Nat) (wp_ : World) (m14_ : Value), a = putSel a0_ b [(0, 37, .pointer (some ⟨gx, 2, none⟩)), (1, 38, .slice (some ⟨q, 0, none⟩) X.ca.length X.c2), (2, 39, .int .i64 ck), (3, 40, .pointer (some ⟨gx, 2, none⟩)), (4, 41, .slice (some ⟨q, 0, none⟩) X.ca.length X.c2), (5, 42, .int .i64 ck), (6, 43, .pointer (some ⟨q, ck.toNat, none⟩)), (7, 44, .slice vA xs.length vc), (8, 45, .agg #[.int .i64 a3.f0, .int .i64 a3.f1, .int .i64 a3.f2, .int .i64 a3.f3, .int .i64 a3.f4, .int .i64 a3.f5]), (9, 46, .pointer (some ⟨w.heap.size, 3, none⟩)), (10, 47, .slice a0.A3 a0.su.length a0.c3), (11, 48, .int .i64 (a0.su.length : Int)), (12, 49, .int .i64 ((a0.su.length : Int) - 1)), (13, 50, .agg #[.int .i64 a3.f0, .int .i64 a3.f1, .int .i64 a3.f2, .int .i64 a3.f3, .int .i64 a3.f4, .int .i64 a3.f5, .int .i64 0, .int .i64 ((a0.su.length : Int) - 1)]), (14, 51, m14_), (15, 52, v52_), (16, 53, .pointer (some ⟨q, ck.toNat, none⟩))] ∧ (Below w.heap.size w w') ∧ (w7_.heap.size ≤ w'.heap.size) ∧ (w'.heap[w.heap.size]? = some (.cells #[.slice a0.A0 a0.st.length a0.c0, .slice a0.A1 a0.ri.length a0.c1, .slice a0.A2 a0.ca.length a0.c2, .slice a0.A3 a0.su.length a0.c3] 27 (0, 0)) ∧ w'.heap[w.heap.size + 1]? = some (.cells #[.int .i64 a3.f0, .int .i64 a3.f1, .int .i64 a3.f2, .int .i64 a3.f3, .int .i64 a3.f4, .int .i64 a3.f5] 55 (0, 0)) ∧ w'.heap[gx]? = some (.cells #[.slice X.A0 X.st.length X.c0, .slice X.A1 X.ri.length X.c1, .slice (some ⟨q, 0, none⟩) X.ca.length X.c2, .slice X.A3 X.su.length X.c3] 27 (0, 0))) ∧ (b 17 = false → Lent X ck q (fun k => True ∨ w7_.heap.size ≤ k) okw w.heap.size (.slice vA xs.length vc) w') ∧ (b 14 = false → Kd.R k61 61 w' w.heap.size okw (.slice vA xs.length vc) (xs)) ∧ (b 14 = true → b 15 = false → w' = wp_.alloc (.cells #[.int .i64 a3.f0, .int .i64 a3.f1, .int .i64 a3.f2, .int .i64 a3.f3, .int .i64 a3.f4, .int .i64 a3.f5, .int .i64 0, .int .i64 ((a0.su.length : Int) - 1)] 61) ∧ q51_ = wp_.heap.size ∧ Below w.heap.size w wp_ ∧ w7_.heap.size ≤ wp_.heap.size ∧ (wp_.heap[w.heap.size]? = some (.cells #[.slice a0.A0 a0.st.length a0.c0, .slice a0.A1 a0.ri.length a0.c1, .slice a0.A2 a0.ca.length a0.c2, .slice a0.A3 a0.su.length a0.c3] 27 (0, 0)) ∧ wp_.heap[w.heap.size + 1]? = some (.cells #[.int .i64 a3.f0, .int .i64 a3.f1, .int .i64 a3.f2, .int .i64 a3.f3, .int .i64 a3.f4, .int .i64 a3.f5] 55 (0, 0)) ∧ wp_.heap[gx]? = some (.cells #[.slice X.A0 X.st.length X.c0, .slice X.A1 X.ri.length X.c1, .slice (some ⟨q, 0, none⟩) X.ca.length X.c2, .slice X.A3 X.su.length X.c3] 27 (0, 0))) ∧ (Lent X ck q (fun k => True ∨ w7_.heap.size ≤ k) okw w.heap.size (.slice vA xs.length vc) wp_) ∧ (Kd.R k61 61 wp_ w.heap.size okw (.slice vA xs.length vc) (xs))) ∧ (b 15 = true → b 17 = false → Kd.R k61 61 w' w.heap.size okw (v52_) (xs ++ [(⟨a3, 0, ((a0.su.length : Int) - 1)⟩ : S61)])) ∧ (b 17 = true → Ow { X with ca := X.ca.set ck.toNat (xs ++ [(⟨a3, 0, ((a0.su.length : Int) - 1)⟩ : S61)]) } (fun k => True ∨ w7_.heap.size ≤ k) w.heap.size w') ∧ (b 14 = true → (m14_ : Value) = .slice (some ⟨q51_, 0, none⟩) 1 1)) HT_.out HW_.out (by kernel_rfl) (by kernel_rfl) ?_ ?_ ?_
  · exact ⟨.bool false, 0, w7_, .bool false, by simp only [putSel, Bool.false_eq_true, if_false], HBW.out, SZ.out, BX.out, fun _ => LE.out, fun _ => R44.out, fun h_ => absurd h_ (by decide), fun h_ => absurd h_ (by decide), fun h_ => absurd h_ (by decide), fun h_ => absurd h_ (by decide)⟩
  · skip
    clear BX HBW LE R44 SZ
    refine steps_cons ?_ ?_
    · rintro b a w' ⟨v52_, q51_, wp_, m14_, ha, Q_HBW, Q_SZ, Q_BX, Q_LE, Q_R44, Q_PH2, Q_R52, Q_END, Q_X14_⟩ hb_ hon hoff
      refine ⟨_, rfl, fun K hK => ?_⟩
      have e12 : a.tmps[12]? = some (.pointer (some ⟨gx, 0, none⟩)) := by rw [ha]; exact (putSel_off rfl).trans rfl
      replace ha := Aside0.mk ha
      have HBW := Aside0.mk Q_HBW
      have SZ := Aside0.mk Q_SZ
      have BX := Aside0.mk Q_BX
      have LE := Aside0.mk (Q_LE (hoff 17 (by kernel_rfl)))
      refine value_ (w1 := w') (v := .pointer (some ⟨gx, 2, none⟩)) (by rfl) rfl ?_ ?_
      · go_simp
        (try simp only [i64_w])
        try rfl
      refine hK.out _ _ ⟨v52_, q51_, wp_, m14_, (by rw [ha.out]; exact putSel_upk 0 hb_ rfl rfl rfl), Q_HBW, Q_SZ, Q_BX, Q_LE, Q_R44, Q_PH2, Q_R52, fun h0_ => absurd ((hoff 17 (by kernel_rfl)).symm.trans h0_) (by decide), Q_X14_⟩
    refine steps_cons ?_ ?_
    · rintro b a w' ⟨v52_, q51_, wp_, m14_, ha, Q_HBW, Q_SZ, Q_BX, Q_LE, Q_R44, Q_PH2, Q_R52, Q_END, Q_X14_⟩ hb_ hon hoff
      refine ⟨_, rfl, fun K hK => ?_⟩
      have e37 : a.tmps[37]? = some (.pointer (some ⟨gx, 2, none⟩)) := by rw [ha]; exact putSel_on (e := (0, 37, .pointer (some ⟨gx, 2, none⟩))) 0 rfl rfl (hon 0 (by kernel_rfl)) rfl
      replace ha := Aside0.mk ha
      have HBW := Aside0.mk Q_HBW
      have SZ := Aside0.mk Q_SZ
      have BX := Aside0.mk Q_BX
      have LE := Aside0.mk (Q_LE (hoff 17 (by kernel_rfl)))
      have k0_ := (blk_cell BX.out.2.2 2).trans rfl
      refine value_ (w1 := w') (v := .slice (some ⟨q, 0, none⟩) X.ca.length X.c2) (by rfl) rfl ?_ ?_
      · go_simp
        (try simp only [i64_w])
        try rfl
      refine hK.out _ _ ⟨v52_, q51_, wp_, m14_, (by rw [ha.out]; exact putSel_upk 1 hb_ rfl rfl rfl), Q_HBW, Q_SZ, Q_BX, Q_LE, Q_R44, Q_PH2, Q_R52, fun h0_ => absurd ((hoff 17 (by kernel_rfl)).symm.trans h0_) (by decide), Q_X14_⟩
    refine steps_cons ?_ ?_
    · rintro b a w' ⟨v52_, q51_, wp_, m14_, ha, Q_HBW, Q_SZ, Q_BX, Q_LE, Q_R44, Q_PH2, Q_R52, Q_END, Q_X14_⟩ hb_ hon hoff
      refine ⟨_, rfl, fun K hK => ?_⟩
      have e11 : a.tmps[11]? = some (.int .i64 ck) := by rw [ha]; exact (putSel_off rfl).trans rfl
      replace ha := Aside0.mk ha
      have HBW := Aside0.mk Q_HBW
      have SZ := Aside0.mk Q_SZ
      have BX := Aside0.mk Q_BX
      have LE := Aside0.mk (Q_LE (hoff 17 (by kernel_rfl)))
      refine value_ (w1 := w') (v := .int .i64 ck) (by rfl) rfl ?_ ?_
      · go_simp
        (try simp only [i64_w])
        try rfl
      refine hK.out _ _ ⟨v52_, q51_, wp_, m14_, (by rw [ha.out]; exact putSel_upk 2 hb_ rfl rfl rfl), Q_HBW, Q_SZ, Q_BX, Q_LE, Q_R44, Q_PH2, Q_R52, fun h0_ => absurd ((hoff 17 (by kernel_rfl)).symm.trans h0_) (by decide), Q_X14_⟩
    refine steps_cons ?_ ?_
    · rintro b a w' ⟨v52_, q51_, wp_, m14_, ha, Q_HBW, Q_SZ, Q_BX, Q_LE, Q_R44, Q_PH2, Q_R52, Q_END, Q_X14_⟩ hb_ hon hoff
      refine ⟨_, rfl, fun K hK => ?_⟩
      have e12 : a.tmps[12]? = some (.pointer (some ⟨gx, 0, none⟩)) := by rw [ha]; exact (putSel_off rfl).trans rfl
      replace ha := Aside0.mk ha
      have HBW := Aside0.mk Q_HBW
      have SZ := Aside0.mk Q_SZ
      have BX := Aside0.mk Q_BX
      have LE := Aside0.mk (Q_LE (hoff 17 (by kernel_rfl)))
      refine value_ (w1 := w') (v := .pointer (some ⟨gx, 2, none⟩)) (by rfl) rfl ?_ ?_
      · go_simp
        (try simp only [i64_w])
        try rfl
      refine hK.out _ _ ⟨v52_, q51_, wp_, m14_, (by rw [ha.out]; exact putSel_upk 3 hb_ rfl rfl rfl), Q_HBW, Q_SZ, Q_BX, Q_LE, Q_R44, Q_PH2, fun h0_ _ => absurd ((hoff 15 (by kernel_rfl)).symm.trans h0_) (by decide), fun h0_ => absurd ((hoff 17 (by kernel_rfl)).symm.trans h0_) (by decide), Q_X14_⟩
    refine steps_cons ?_ ?_
    · rintro b a w' ⟨v52_, q51_, wp_, m14_, ha, Q_HBW, Q_SZ, Q_BX, Q_LE, Q_R44, Q_PH2, Q_R52, Q_END, Q_X14_⟩ hb_ hon hoff
      refine ⟨_, rfl, fun K hK => ?_⟩
      have e40 : a.tmps[40]? = some (.pointer (some ⟨gx, 2, none⟩)) := by rw [ha]; exact putSel_on (e := (3, 40, .pointer (some ⟨gx, 2, none⟩))) 3 rfl rfl (hon 3 (by kernel_rfl)) rfl
      replace ha := Aside0.mk ha
      have HBW := Aside0.mk Q_HBW
      have SZ := Aside0.mk Q_SZ
      have BX := Aside0.mk Q_BX
      have LE := Aside0.mk (Q_LE (hoff 17 (by kernel_rfl)))
      have k0_ := (blk_cell BX.out.2.2 2).trans rfl
      refine value_ (w1 := w') (v := .slice (some ⟨q, 0, none⟩) X.ca.length X.c2) (by rfl) rfl ?_ ?_
      · go_simp
        (try simp only [i64_w])
        try rfl
      refine hK.out _ _ ⟨v52_, q51_, wp_, m14_, (by rw [ha.out]; exact putSel_upk 4 hb_ rfl rfl rfl), Q_HBW, Q_SZ, Q_BX, Q_LE, Q_R44, Q_PH2, fun h0_ _ => absurd ((hoff 15 (by kernel_rfl)).symm.trans h0_) (by decide), fun h0_ => absurd ((hoff 17 (by kernel_rfl)).symm.trans h0_) (by decide), Q_X14_⟩
    refine steps_cons ?_ ?_
    · rintro b a w' ⟨v52_, q51_, wp_, m14_, ha, Q_HBW, Q_SZ, Q_BX, Q_LE, Q_R44, Q_PH2, Q_R52, Q_END, Q_X14_⟩ hb_ hon hoff
      refine ⟨_, rfl, fun K hK => ?_⟩
      have e11 : a.tmps[11]? = some (.int .i64 ck) := by rw [ha]; exact (putSel_off rfl).trans rfl
      replace ha := Aside0.mk ha
      have HBW := Aside0.mk Q_HBW
      have SZ := Aside0.mk Q_SZ
      have BX := Aside0.mk Q_BX
      have LE := Aside0.mk (Q_LE (hoff 17 (by kernel_rfl)))
      refine value_ (w1 := w') (v := .int .i64 ck) (by rfl) rfl ?_ ?_
      · go_simp
        (try simp only [i64_w])
        try rfl
      refine hK.out _ _ ⟨v52_, q51_, wp_, m14_, (by rw [ha.out]; exact putSel_upk 5 hb_ rfl rfl rfl), Q_HBW, Q_SZ, Q_BX, Q_LE, Q_R44, Q_PH2, fun h0_ _ => absurd ((hoff 15 (by kernel_rfl)).symm.trans h0_) (by decide), fun h0_ => absurd ((hoff 17 (by kernel_rfl)).symm.trans h0_) (by decide), Q_X14_⟩
    refine steps_cons ?_ ?_
    · rintro b a w' ⟨v52_, q51_, wp_, m14_, ha, Q_HBW, Q_SZ, Q_BX, Q_LE, Q_R44, Q_PH2, Q_R52, Q_END, Q_X14_⟩ hb_ hon hoff
      refine ⟨_, rfl, fun K hK => ?_⟩
      have e41 : a.tmps[41]? = some (.slice (some ⟨q, 0, none⟩) X.ca.length X.c2) := by rw [ha]; exact putSel_on (e := (4, 41, .slice (some ⟨q, 0, none⟩) X.ca.length X.c2)) 4 rfl rfl (hon 4 (by kernel_rfl)) rfl
      have e42 : a.tmps[42]? = some (.int .i64 ck) := by rw [ha]; exact putSel_on (e := (5, 42, .int .i64 ck)) 5 rfl rfl (hon 5 (by kernel_rfl)) rfl
      replace ha := Aside0.mk ha
      have HBW := Aside0.mk Q_HBW
      have SZ := Aside0.mk Q_SZ
      have BX := Aside0.mk Q_BX
      have LE := Aside0.mk (Q_LE (hoff 17 (by kernel_rfl)))
      have k1_ : (0 : Int) ≤ ck := hk0
      have k2_ := hk1
      refine value_ (w1 := w') (v := .pointer (some ⟨q, ck.toNat, none⟩)) (by rfl) rfl ?_ ?_
      · go_simp
        (try simp only [i64_w])
        try rfl
      refine hK.out _ _ ⟨v52_, q51_, wp_, m14_, (by rw [ha.out]; exact putSel_upk 6 hb_ rfl rfl rfl), Q_HBW, Q_SZ, Q_BX, Q_LE, Q_R44, Q_PH2, fun h0_ _ => absurd ((hoff 15 (by kernel_rfl)).symm.trans h0_) (by decide), fun h0_ => absurd ((hoff 17 (by kernel_rfl)).symm.trans h0_) (by decide), Q_X14_⟩
    refine steps_cons ?_ ?_
    · rintro b a w' ⟨v52_, q51_, wp_, m14_, ha, Q_HBW, Q_SZ, Q_BX, Q_LE, Q_R44, Q_PH2, Q_R52, Q_END, Q_X14_⟩ hb_ hon hoff
      refine ⟨_, rfl, fun K hK => ?_⟩
      have e43 : a.tmps[43]? = some (.pointer (some ⟨q, ck.toNat, none⟩)) := by rw [ha]; exact putSel_on (e := (6, 43, .pointer (some ⟨q, ck.toNat, none⟩))) 6 rfl rfl (hon 6 (by kernel_rfl)) rfl
      replace ha := Aside0.mk ha
      have HBW := Aside0.mk Q_HBW
      have SZ := Aside0.mk Q_SZ
      have BX := Aside0.mk Q_BX
      have LE := Aside0.mk (Q_LE (hoff 17 (by kernel_rfl)))
      have k0_ := (LE.out.typed hk0 hk1).2
      refine value_ (w1 := w') (v := .slice vA xs.length vc) (by rfl) rfl ?_ ?_
      · go_simp
        (try simp only [i64_w])
        try rfl
      refine hK.out _ _ ⟨v52_, q51_, wp_, m14_, (by rw [ha.out]; exact putSel_upk 7 hb_ rfl rfl rfl), Q_HBW, Q_SZ, Q_BX, Q_LE, Q_R44, Q_PH2, fun h0_ _ => absurd ((hoff 15 (by kernel_rfl)).symm.trans h0_) (by decide), fun h0_ => absurd ((hoff 17 (by kernel_rfl)).symm.trans h0_) (by decide), Q_X14_⟩
    refine steps_cons ?_ ?_
    · rintro b a w' ⟨v52_, q51_, wp_, m14_, ha, Q_HBW, Q_SZ, Q_BX, Q_LE, Q_R44, Q_PH2, Q_R52, Q_END, Q_X14_⟩ hb_ hon hoff
      refine ⟨_, rfl, fun K hK => ?_⟩
      have e7 : a.tmps[7]? = some (.pointer (some ⟨w.heap.size + 1, 0, none⟩)) := by rw [ha]; exact (putSel_off rfl).trans rfl
      replace ha := Aside0.mk ha
      have HBW := Aside0.mk Q_HBW
      have SZ := Aside0.mk Q_SZ
      have BX := Aside0.mk Q_BX
      have LE := Aside0.mk (Q_LE (hoff 17 (by kernel_rfl)))
      have R44 := Aside0.mk (Q_R44 (hoff 14 (by kernel_rfl)))
      have k0_ := (blk_cell BX.out.2.1 0).trans rfl
      have k1_ := (blk_cell BX.out.2.1 1).trans rfl
      have k2_ := (blk_cell BX.out.2.1 2).trans rfl
      have k3_ := (blk_cell BX.out.2.1 3).trans rfl
      have k4_ := (blk_cell BX.out.2.1 4).trans rfl
      have k5_ := (blk_cell BX.out.2.1 5).trans rfl
      refine value_ (w1 := w') (v := .agg #[.int .i64 a3.f0, .int .i64 a3.f1, .int .i64 a3.f2, .int .i64 a3.f3, .int .i64 a3.f4, .int .i64 a3.f5]) (by rfl) rfl ?_ ?_
      · go_simp
        (try simp only [i64_w])
        try rfl
      refine hK.out _ _ ⟨v52_, q51_, wp_, m14_, (by rw [ha.out]; exact putSel_upk 8 hb_ rfl rfl rfl), Q_HBW, Q_SZ, Q_BX, Q_LE, Q_R44, fun h0_ _ => absurd ((hoff 14 (by kernel_rfl)).symm.trans h0_) (by decide), fun h0_ _ => absurd ((hoff 15 (by kernel_rfl)).symm.trans h0_) (by decide), fun h0_ => absurd ((hoff 17 (by kernel_rfl)).symm.trans h0_) (by decide), fun h0_ => absurd ((hoff 14 (by kernel_rfl)).symm.trans h0_) (by decide)⟩
    refine steps_cons ?_ ?_
    · rintro b a w' ⟨v52_, q51_, wp_, m14_, ha, Q_HBW, Q_SZ, Q_BX, Q_LE, Q_R44, Q_PH2, Q_R52, Q_END, Q_X14_⟩ hb_ hon hoff
      refine ⟨_, rfl, fun K hK => ?_⟩
      have e4 : a.tmps[4]? = some (.pointer (some ⟨w.heap.size, 0, none⟩)) := by rw [ha]; exact (putSel_off rfl).trans rfl
      replace ha := Aside0.mk ha
      have HBW := Aside0.mk Q_HBW
      have SZ := Aside0.mk Q_SZ
      have BX := Aside0.mk Q_BX
      have LE := Aside0.mk (Q_LE (hoff 17 (by kernel_rfl)))
      have R44 := Aside0.mk (Q_R44 (hoff 14 (by kernel_rfl)))
      refine value_ (w1 := w') (v := .pointer (some ⟨w.heap.size, 3, none⟩)) (by rfl) rfl ?_ ?_
      · go_simp
        (try simp only [i64_w])
        try rfl
      refine hK.out _ _ ⟨v52_, q51_, wp_, m14_, (by rw [ha.out]; exact putSel_upk 9 hb_ rfl rfl rfl), Q_HBW, Q_SZ, Q_BX, Q_LE, Q_R44, fun h0_ _ => absurd ((hoff 14 (by kernel_rfl)).symm.trans h0_) (by decide), fun h0_ _ => absurd ((hoff 15 (by kernel_rfl)).symm.trans h0_) (by decide), fun h0_ => absurd ((hoff 17 (by kernel_rfl)).symm.trans h0_) (by decide), fun h0_ => absurd ((hoff 14 (by kernel_rfl)).symm.trans h0_) (by decide)⟩
    refine steps_cons ?_ ?_
    · rintro b a w' ⟨v52_, q51_, wp_, m14_, ha, Q_HBW, Q_SZ, Q_BX, Q_LE, Q_R44, Q_PH2, Q_R52, Q_END, Q_X14_⟩ hb_ hon hoff
      refine ⟨_, rfl, fun K hK => ?_⟩
      have e46 : a.tmps[46]? = some (.pointer (some ⟨w.heap.size, 3, none⟩)) := by rw [ha]; exact putSel_on (e := (9, 46, .pointer (some ⟨w.heap.size, 3, none⟩))) 9 rfl rfl (hon 9 (by kernel_rfl)) rfl
      replace ha := Aside0.mk ha
      have HBW := Aside0.mk Q_HBW
      have SZ := Aside0.mk Q_SZ
      have BX := Aside0.mk Q_BX
      have LE := Aside0.mk (Q_LE (hoff 17 (by kernel_rfl)))
      have R44 := Aside0.mk (Q_R44 (hoff 14 (by kernel_rfl)))
      have k0_ := (blk_cell BX.out.1 3).trans rfl
      refine value_ (w1 := w') (v := .slice a0.A3 a0.su.length a0.c3) (by rfl) rfl ?_ ?_
      · go_simp
        (try simp only [i64_w])
        try rfl
      refine hK.out _ _ ⟨v52_, q51_, wp_, m14_, (by rw [ha.out]; exact putSel_upk 10 hb_ rfl rfl rfl), Q_HBW, Q_SZ, Q_BX, Q_LE, Q_R44, fun h0_ _ => absurd ((hoff 14 (by kernel_rfl)).symm.trans h0_) (by decide), fun h0_ _ => absurd ((hoff 15 (by kernel_rfl)).symm.trans h0_) (by decide), fun h0_ => absurd ((hoff 17 (by kernel_rfl)).symm.trans h0_) (by decide), fun h0_ => absurd ((hoff 14 (by kernel_rfl)).symm.trans h0_) (by decide)⟩
    refine steps_cons ?_ ?_
    · rintro b a w' ⟨v52_, q51_, wp_, m14_, ha, Q_HBW, Q_SZ, Q_BX, Q_LE, Q_R44, Q_PH2, Q_R52, Q_END, Q_X14_⟩ hb_ hon hoff
      refine ⟨_, rfl, fun K hK => ?_⟩
      have e47 : a.tmps[47]? = some (.slice a0.A3 a0.su.length a0.c3) := by rw [ha]; exact putSel_on (e := (10, 47, .slice a0.A3 a0.su.length a0.c3)) 10 rfl rfl (hon 10 (by kernel_rfl)) rfl
      replace ha := Aside0.mk ha
      have HBW := Aside0.mk Q_HBW
      have SZ := Aside0.mk Q_SZ
      have BX := Aside0.mk Q_BX
      have LE := Aside0.mk (Q_LE (hoff 17 (by kernel_rfl)))
      have R44 := Aside0.mk (Q_R44 (hoff 14 (by kernel_rfl)))
      refine value_ (w1 := w') (v := .int .i64 (a0.su.length : Int)) (by rfl) rfl ?_ ?_
      · go_simp
        (try simp only [i64_w])
        try rfl
      refine hK.out _ _ ⟨v52_, q51_, wp_, m14_, (by rw [ha.out]; exact putSel_upk 11 hb_ rfl rfl rfl), Q_HBW, Q_SZ, Q_BX, Q_LE, Q_R44, fun h0_ _ => absurd ((hoff 14 (by kernel_rfl)).symm.trans h0_) (by decide), fun h0_ _ => absurd ((hoff 15 (by kernel_rfl)).symm.trans h0_) (by decide), fun h0_ => absurd ((hoff 17 (by kernel_rfl)).symm.trans h0_) (by decide), fun h0_ => absurd ((hoff 14 (by kernel_rfl)).symm.trans h0_) (by decide)⟩
    refine steps_cons ?_ ?_
    · rintro b a w' ⟨v52_, q51_, wp_, m14_, ha, Q_HBW, Q_SZ, Q_BX, Q_LE, Q_R44, Q_PH2, Q_R52, Q_END, Q_X14_⟩ hb_ hon hoff
      refine ⟨_, rfl, fun K hK => ?_⟩
      have e48 : a.tmps[48]? = some (.int .i64 (a0.su.length : Int)) := by rw [ha]; exact putSel_on (e := (11, 48, .int .i64 (a0.su.length : Int))) 11 rfl rfl (hon 11 (by kernel_rfl)) rfl
      replace ha := Aside0.mk ha
      have HBW := Aside0.mk Q_HBW
      have SZ := Aside0.mk Q_SZ
      have BX := Aside0.mk Q_BX
      have LE := Aside0.mk (Q_LE (hoff 17 (by kernel_rfl)))
      have R44 := Aside0.mk (Q_R44 (hoff 14 (by kernel_rfl)))
      refine value_ (w1 := w') (v := .int .i64 ((a0.su.length : Int) - 1)) (by rfl) rfl ?_ ?_
      · go_simp
        (try simp only [i64_w])
        exact hw
      refine hK.out _ _ ⟨v52_, q51_, wp_, m14_, (by rw [ha.out]; exact putSel_upk 12 hb_ rfl rfl rfl), HBW.out, SZ.out, BX.out, fun _ => LE.out, fun _ => R44.out, fun h0_ _ => absurd ((hoff 14 (by kernel_rfl)).symm.trans h0_) (by decide), fun h0_ _ => absurd ((hoff 15 (by kernel_rfl)).symm.trans h0_) (by decide), fun h0_ => absurd ((hoff 17 (by kernel_rfl)).symm.trans h0_) (by decide), fun h0_ => absurd ((hoff 14 (by kernel_rfl)).symm.trans h0_) (by decide)⟩
    refine steps_cons ?_ ?_
    · rintro b a w' ⟨v52_, q51_, wp_, m14_, ha, Q_HBW, Q_SZ, Q_BX, Q_LE, Q_R44, Q_PH2, Q_R52, Q_END, Q_X14_⟩ hb_ hon hoff
      refine ⟨_, rfl, fun K hK => ?_⟩
      have e45 : a.tmps[45]? = some (.agg #[.int .i64 a3.f0, .int .i64 a3.f1, .int .i64 a3.f2, .int .i64 a3.f3, .int .i64 a3.f4, .int .i64 a3.f5]) := by rw [ha]; exact putSel_on (e := (8, 45, .agg #[.int .i64 a3.f0, .int .i64 a3.f1, .int .i64 a3.f2, .int .i64 a3.f3, .int .i64 a3.f4, .int .i64 a3.f5])) 8 rfl rfl (hon 8 (by kernel_rfl)) rfl
      have e49 : a.tmps[49]? = some (.int .i64 ((a0.su.length : Int) - 1)) := by rw [ha]; exact putSel_on (e := (12, 49, .int .i64 ((a0.su.length : Int) - 1))) 12 rfl rfl (hon 12 (by kernel_rfl)) rfl
      replace ha := Aside0.mk ha
      have HBW := Aside0.mk Q_HBW
      have SZ := Aside0.mk Q_SZ
      have BX := Aside0.mk Q_BX
      have LE := Aside0.mk (Q_LE (hoff 17 (by kernel_rfl)))
      have R44 := Aside0.mk (Q_R44 (hoff 14 (by kernel_rfl)))
      refine value_ (w1 := w') (v := .agg #[.int .i64 a3.f0, .int .i64 a3.f1, .int .i64 a3.f2, .int .i64 a3.f3, .int .i64 a3.f4, .int .i64 a3.f5, .int .i64 0, .int .i64 ((a0.su.length : Int) - 1)]) (by rfl) rfl ?_ ?_
      · go_simp
        (try simp only [i64_w])
        try rfl
      refine hK.out _ _ ⟨v52_, q51_, wp_, m14_, (by rw [ha.out]; exact putSel_upk 13 hb_ rfl rfl rfl), Q_HBW, Q_SZ, Q_BX, Q_LE, Q_R44, fun h0_ _ => absurd ((hoff 14 (by kernel_rfl)).symm.trans h0_) (by decide), fun h0_ _ => absurd ((hoff 15 (by kernel_rfl)).symm.trans h0_) (by decide), fun h0_ => absurd ((hoff 17 (by kernel_rfl)).symm.trans h0_) (by decide), fun h0_ => absurd ((hoff 14 (by kernel_rfl)).symm.trans h0_) (by decide)⟩
    refine steps_cons ?_ ?_
    · rintro b a w' ⟨v52_, q51_, wp_, m14_, ha, Q_HBW, Q_SZ, Q_BX, Q_LE, Q_R44, Q_PH2, Q_R52, Q_END, Q_X14_⟩ hb_ hon hoff
      refine ⟨_, rfl, fun K hK => ?_⟩
      have e50 : a.tmps[50]? = some (.agg #[.int .i64 a3.f0, .int .i64 a3.f1, .int .i64 a3.f2, .int .i64 a3.f3, .int .i64 a3.f4, .int .i64 a3.f5, .int .i64 0, .int .i64 ((a0.su.length : Int) - 1)]) := by rw [ha]; exact putSel_on (e := (13, 50, .agg #[.int .i64 a3.f0, .int .i64 a3.f1, .int .i64 a3.f2, .int .i64 a3.f3, .int .i64 a3.f4, .int .i64 a3.f5, .int .i64 0, .int .i64 ((a0.su.length : Int) - 1)])) 13 rfl rfl (hon 13 (by kernel_rfl)) rfl
      replace ha := Aside0.mk ha
      have HBW := Aside0.mk Q_HBW
      have SZ := Aside0.mk Q_SZ
      have BX := Aside0.mk Q_BX
      have LE := Aside0.mk (Q_LE (hoff 17 (by kernel_rfl)))
      have R44 := Aside0.mk (Q_R44 hb_)
      refine value_ (w1 := w'.alloc (.cells #[.int .i64 a3.f0, .int .i64 a3.f1, .int .i64 a3.f2, .int .i64 a3.f3, .int .i64 a3.f4, .int .i64 a3.f5, .int .i64 0, .int .i64 ((a0.su.length : Int) - 1)] 61)) (v := .slice (some ⟨w'.heap.size, 0, none⟩) 1 1) (by rfl) rfl (by go_simp) ?_
      have hbb := b1 w' (.cells #[.int .i64 a3.f0, .int .i64 a3.f1, .int .i64 a3.f2, .int .i64 a3.f3, .int .i64 a3.f4, .int .i64 a3.f5, .int .i64 0, .int .i64 ((a0.su.length : Int) - 1)] 61)
      refine hK.out _ _ ⟨v52_, w'.heap.size, w', (.slice (some ⟨w'.heap.size, 0, none⟩) 1 1), (by rw [ha.out]; exact putSel_upk 14 hb_ rfl rfl rfl), bt HBW.out hbb, Nat.le_trans SZ.out hbb.size, ⟨blk_below BX.out.1 hbb, blk_below BX.out.2.1 hbb, blk_below BX.out.2.2 hbb⟩, fun _ => LE.out.below hbb, fun h0_ => absurd ((up_self b 14).symm.trans h0_) (by decide), fun _ _ => ⟨rfl, rfl, HBW.out, SZ.out, BX.out, LE.out, R44.out⟩, fun h0_ _ => absurd ((hoff 15 (by kernel_rfl)).symm.trans h0_) (by decide), fun h0_ => absurd ((hoff 17 (by kernel_rfl)).symm.trans h0_) (by decide), fun _ => rfl⟩
    refine steps_cons ?_ ?_
    · rintro b a w' ⟨v52_, q51_, wp_, m14_, ha, Q_HBW, Q_SZ, Q_BX, Q_LE, Q_R44, Q_PH2, Q_R52, Q_END, Q_X14_⟩ hb_ hon hoff
      refine ⟨_, rfl, fun K hK => ?_⟩
      have e44 : a.tmps[44]? = some (.slice vA xs.length vc) := by rw [ha]; exact putSel_on (e := (7, 44, .slice vA xs.length vc)) 7 rfl rfl (hon 7 (by kernel_rfl)) rfl
      have e51 : a.tmps[51]? = some (m14_) := by rw [ha]; exact putSel_on (e := (14, 51, m14_)) 14 rfl rfl (hon 14 (by kernel_rfl)) rfl
      rw [Q_X14_ (hon 14 (by kernel_rfl))] at e51
      replace ha := Aside0.mk ha
      have HBW := Aside0.mk Q_HBW
      have SZ := Aside0.mk Q_SZ
      have BX := Aside0.mk Q_BX
      have LE := Aside0.mk (Q_LE (hoff 17 (by kernel_rfl)))
      have PH2 := Aside0.mk (Q_PH2 (hon 14 (by kernel_rfl)) hb_)
      obtain ⟨p1_, p2_, p3_, p4_, p5_, p6_, p7_⟩ := PH2.out
      rw [p2_] at e51
      clear HBW SZ BX LE PH2
      subst p1_
      refine Kd.R_append_step k61 (w0 := w) w.heap.size (by rfl) (.tmp 44) (.tmp 51) 59 61 (.agg #[(.int .i64 0), (.int .i64 0), (.int .i64 0), (.int .i64 0), (.int .i64 0), (.int .i64 0), (.int .i64 0), (.int .i64 0)]) 64 rfl Try.underlying59 info61 rfl (by decide) (by decide) (.slice vA xs.length vc) xs (⟨a3, 0, ((a0.su.length : Int) - 1)⟩ : S61) [.int .i64 a3.f0, .int .i64 a3.f1, .int .i64 a3.f2, .int .i64 a3.f3, .int .i64 a3.f4, .int .i64 a3.f5, .int .i64 0, .int .i64 ((a0.su.length : Int) - 1)] okw (fun _ => False) (by simp only [Act.eval, Array.getD_eq_getD_getElem?, Option.getD_some, e44]) (by simp only [Act.eval, Array.getD_eq_getD_getElem?, Option.getD_some, e51]) (k61_mkM _ _ _ _) (fun _ hk => hk.elim) (fun k hk => HW2.out k (Nat.le_trans p4_ hk)) p7_ p3_ p3_.size (by omega) ?_
      intro v_ w2 hR_ hB_ hg_ hat_
      refine hK.out _ _ ⟨v_, q51_, wp_, m14_, (by rw [ha.out]; exact putSel_upk 15 hb_ rfl rfl rfl), hB_, Nat.le_trans p4_ hg_.size, ⟨blk_grown p5_.1 hg_ (Kd.R_ne p7_ p5_.1 (by decide)), blk_grown p5_.2.1 hg_ (Kd.R_ne p7_ p5_.2.1 (by decide)), blk_grown p5_.2.2 hg_ (Kd.R_ne p7_ p5_.2.2 (by decide))⟩, fun _ => p6_.grown p7_ hg_, fun h0_ => absurd ((hon 14 (by kernel_rfl)).symm.trans h0_) (by decide), fun _ h1_ => absurd ((up_self b 15).symm.trans h1_) (by decide), fun _ _ => hR_, fun h0_ => absurd ((hoff 17 (by kernel_rfl)).symm.trans h0_) (by decide), Q_X14_⟩
    refine steps_cons ?_ ?_
    · rintro b a w' ⟨v52_, q51_, wp_, m14_, ha, Q_HBW, Q_SZ, Q_BX, Q_LE, Q_R44, Q_PH2, Q_R52, Q_END, Q_X14_⟩ hb_ hon hoff
      refine ⟨_, rfl, fun K hK => ?_⟩
      have e38 : a.tmps[38]? = some (.slice (some ⟨q, 0, none⟩) X.ca.length X.c2) := by rw [ha]; exact putSel_on (e := (1, 38, .slice (some ⟨q, 0, none⟩) X.ca.length X.c2)) 1 rfl rfl (hon 1 (by kernel_rfl)) rfl
      have e39 : a.tmps[39]? = some (.int .i64 ck) := by rw [ha]; exact putSel_on (e := (2, 39, .int .i64 ck)) 2 rfl rfl (hon 2 (by kernel_rfl)) rfl
      replace ha := Aside0.mk ha
      have HBW := Aside0.mk Q_HBW
      have SZ := Aside0.mk Q_SZ
      have BX := Aside0.mk Q_BX
      have LE := Aside0.mk (Q_LE (hoff 17 (by kernel_rfl)))
      have R52 := Aside0.mk (Q_R52 (hon 15 (by kernel_rfl)) (hoff 17 (by kernel_rfl)))
      have k1_ : (0 : Int) ≤ ck := hk0
      have k2_ := hk1
      refine value_ (w1 := w') (v := .pointer (some ⟨q, ck.toNat, none⟩)) (by rfl) rfl ?_ ?_
      · go_simp
        (try simp only [i64_w])
        try rfl
      refine hK.out _ _ ⟨v52_, q51_, wp_, m14_, (by rw [ha.out]; exact putSel_upk 16 hb_ rfl rfl rfl), Q_HBW, Q_SZ, Q_BX, Q_LE, fun h0_ => absurd ((hon 14 (by kernel_rfl)).symm.trans h0_) (by decide), fun _ h1_ => absurd ((hon 15 (by kernel_rfl)).symm.trans h1_) (by decide), Q_R52, fun h0_ => absurd ((hoff 17 (by kernel_rfl)).symm.trans h0_) (by decide), Q_X14_⟩
    refine steps_cons ?_ ?_
    · rintro b a w' ⟨v52_, q51_, wp_, m14_, ha, Q_HBW, Q_SZ, Q_BX, Q_LE, Q_R44, Q_PH2, Q_R52, Q_END, Q_X14_⟩ hb_ hon hoff
      refine ⟨_, rfl, fun K hK => ?_⟩
      have e53 : a.tmps[53]? = some (.pointer (some ⟨q, ck.toNat, none⟩)) := by rw [ha]; exact putSel_on (e := (16, 53, .pointer (some ⟨q, ck.toNat, none⟩))) 16 rfl rfl (hon 16 (by kernel_rfl)) rfl
      have e52 : a.tmps[52]? = some (v52_) := by rw [ha]; exact putSel_on (e := (15, 52, v52_)) 15 rfl rfl (hon 15 (by kernel_rfl)) rfl
      replace ha := Aside0.mk ha
      have HBW := Aside0.mk Q_HBW
      have SZ := Aside0.mk Q_SZ
      have BX := Aside0.mk Q_BX
      have LE := Aside0.mk (Q_LE hb_)
      have R52 := Aside0.mk (Q_R52 (hon 15 (by kernel_rfl)) hb_)
      obtain ⟨b52_, y52_, rfl⟩ := Kd.R_slice R52.out
      obtain ⟨⟨cells_, hcl_⟩, c0⟩ := LE.out.typed hk0 hk1
      have f0 := blk_frozen hcl_ ck.toNat
      clear hcl_
      refine skip_ (w1 := w'.setCell ⟨q, ck.toNat, none⟩ (.slice b52_ (xs ++ [(⟨a3, 0, ((a0.su.length : Int) - 1)⟩ : S61)]).length y52_)) (by rfl) rfl (by go_simp) ?_
      refine hK.out _ _ ⟨(.slice b52_ (xs ++ [(⟨a3, 0, ((a0.su.length : Int) - 1)⟩ : S61)]).length y52_), q51_, wp_, m14_, (by rw [ha.out]; exact putSel_none (v := undef) rfl), below_set HBW.out HQB.out, Nat.le_trans SZ.out (Nat.le_of_eq (setCell_size _ _ _).symm), ⟨blk_far (p := ⟨q, ck.toNat, none⟩) BX.out.1 HN.out.1 _, blk_far (p := ⟨q, ck.toNat, none⟩) BX.out.2.1 HN.out.2.1 _, blk_far (p := ⟨q, ck.toNat, none⟩) BX.out.2.2 HN.out.2.2 _⟩, fun h0_ => absurd ((up_self b 17).symm.trans h0_) (by decide), fun h0_ => absurd ((hon 14 (by kernel_rfl)).symm.trans h0_) (by decide), fun _ h1_ => absurd ((hon 15 (by kernel_rfl)).symm.trans h1_) (by decide), fun _ h1_ => absurd ((up_self b 17).symm.trans h1_) (by decide), fun _ => LE.out.back R52.out HA2.out hk0 hk1, Q_X14_⟩
    exact steps_nil
  · rintro b a w' hall ⟨v52_, q51_, wp_, m14_, ha, Q_HBW, Q_SZ, Q_BX, Q_LE, Q_R44, Q_PH2, Q_R52, Q_END, Q_X14_⟩
    clear BX HBW LE R44 SZ
    have hb0_ := hall 0 (by kernel_rfl)
    have hb1_ := hall 1 (by kernel_rfl)
    have hb2_ := hall 2 (by kernel_rfl)
    have hb3_ := hall 3 (by kernel_rfl)
    have hb4_ := hall 4 (by kernel_rfl)
    have hb5_ := hall 5 (by kernel_rfl)
    have hb6_ := hall 6 (by kernel_rfl)
    have hb7_ := hall 7 (by kernel_rfl)
    have hb8_ := hall 8 (by kernel_rfl)
    have hb9_ := hall 9 (by kernel_rfl)
    have hb10_ := hall 10 (by kernel_rfl)
    have hb11_ := hall 11 (by kernel_rfl)
    have hb12_ := hall 12 (by kernel_rfl)
    have hb13_ := hall 13 (by kernel_rfl)
    have hb14_ := hall 14 (by kernel_rfl)
    have hb15_ := hall 15 (by kernel_rfl)
    have hb16_ := hall 16 (by kernel_rfl)
    have hb17_ := hall 17 (by kernel_rfl)
    subst ha
    obtain rfl := Q_X14_ hb14_
    simp only [putSel, hb0_, hb1_, hb2_, hb3_, hb4_, hb5_, hb6_, hb7_, hb8_, hb9_, hb10_, hb11_, hb12_, hb13_, hb14_, hb15_, hb16_, hb17_, if_true, Act.put, List.setIfInBounds_toArray, List.set_cons_zero, List.set_cons_succ]
    have HBW := Aside0.mk Q_HBW
    clear Q_HBW
    have SZ := Aside0.mk Q_SZ
    clear Q_SZ
    have BX := Aside0.mk Q_BX
    clear Q_BX
    clear Q_LE
    clear Q_R44
    clear Q_PH2
    clear Q_R52
    have END := Aside0.mk (Q_END hb17_)
    clear Q_END
    clear hall hb0_ hb1_ hb2_ hb3_ hb4_ hb5_ hb6_ hb7_ hb8_ hb9_ hb10_ hb11_ hb12_ hb13_ hb14_ hb15_ hb16_ hb17_
    obtain ⟨Y, hY⟩ : ∃ Y : Rv, Y = { X with ca := X.ca.set ck.toNat (xs ++ [(⟨a3, 0, ((a0.su.length : Int) - 1)⟩ : S61)]) } := ⟨_, rfl⟩
    rw [← hY] at END
    have HYI := Aside0.mk END.out.inn
    have HYE := Aside0.mk (show Y.st = a0.st ∧ Y.ri = a0.ri ∧ Y.ca = a0.ca.set ck.toNat (rd_L3 a0.ca ck ++ [(⟨a3, 0, ((a0.su.length : Int) - 1)⟩ : S61)]) ∧ Y.su = a0.su from by rw [hY, ← HXE.out.2.2.1, HXS.out]; exact ⟨HXE.out.1, HXE.out.2.1, rfl, HXE.out.2.2.2⟩)
    have HYB := Aside0.mk (show w'.heap[gx]? = some (.cells #[.slice Y.A0 Y.st.length Y.c0, .slice Y.A1 Y.ri.length Y.c1, .slice Y.A2 Y.ca.length Y.c2, .slice Y.A3 Y.su.length Y.c3] 27 (0, 0)) from by rw [hY]; simp only [List.length_set, HA2.out]; exact BX.out.2.2)
    have HB := HBW
    have HBX := Aside0.mk BX.out.1
    have HBV := Aside0.mk BX.out.2.1
    clear hY END BX HBW SZ
    have HML : Aside0 ((rd_L3 a0.ca ck).length ≤ 64) := ⟨by rw [← HXE.out.2.2.1, HXS.out]; exact hxl⟩
    have HFY := Aside0.mk (few_set (R := a0) (Y := Y) (k := ck) HF.out HYE.out.1 (by rw [HYE.out.2.1]; omega) HYE.out.2.2.2 HYE.out.2.2.1 (by rw [List.length_append, List.length_singleton]; have := HML.out; omega))
    have HQ := Aside0.mk (ask_mk (at_pair (R := a0) HP.out.1 HP.out.2.1 HK.out ⟨Int.le_refl 0, by omega⟩) HP.out.2.2)
    have HQY := Aside0.mk ((ask_len (L := a0.lv) (M := Y.lv) (f := pa) (t := pb) (k := ck) (h := 0) (by rw [lv_len0, lv_len0, HYE.out.1]) (by rw [lv_len2, lv_len2, HYE.out.2.2.1, List.length_set]) (by rw [lv_len3, lv_len3, HYE.out.2.2.2])).trans HQ.out)
    have HOV := Aside0.mk (over_x (R := a0) (Y := Y) (a := pa) (b := pb) (k := ck) HK.out.1 HK.out.2 HYE.out.1 HYE.out.2.2.1)
    have d0 := (blk_cell HBX.out 0).trans rfl
    have d1 := (blk_cell HBX.out 1).trans rfl
    have d2 := (blk_cell HBX.out 2).trans rfl
    have d3 := (blk_cell HBX.out 3).trans rfl
    have x0_ := (blk_cell HYB.out 0).trans rfl
    have x1_ := (blk_cell HYB.out 1).trans rfl
    have x2_ := (blk_cell HYB.out 2).trans rfl
    have x3_ := (blk_cell HYB.out 3).trans rfl
    go_wp2_with fail
    refine (lfault_c Y _ HYI.out).mono ?_
    rintro e w8_ ⟨rfl, hb_⟩
    replace HB := Aside0.mk (bt HB.out hb_)
    replace HBX := Aside0.mk (blk_below HBX.out hb_)
    replace HBV := Aside0.mk (blk_below HBV.out hb_)
    replace HYB := Aside0.mk (blk_below HYB.out hb_)
    replace HYI := Aside0.mk (HYI.out.below hb_)
    clear x0_ x1_ x2_ x3_
    clear d0 d1 d2 d3
    clear hb_
    have d0 := (blk_cell HBX.out 0).trans rfl
    have d1 := (blk_cell HBX.out 1).trans rfl
    have d2 := (blk_cell HBX.out 2).trans rfl
    have d3 := (blk_cell HBX.out 3).trans rfl
    have x0_ := (blk_cell HYB.out 0).trans rfl
    have x1_ := (blk_cell HYB.out 1).trans rfl
    have x2_ := (blk_cell HYB.out 2).trans rfl
    have x3_ := (blk_cell HYB.out 3).trans rfl
    obtain ⟨yc, hyc⟩ : ∃ yc, Y.lv.check = yc := ⟨_, rfl⟩
    have HYC := Aside0.mk hyc
    rw [hyc]
    clear hyc
    by_cases hz : yc = 0
    rotate_left
    · have t1 : (yc != 0) = true := by simpa using hz
      clear hz
      go_wp2_with fail
      refine (awake_c _).mono ?_
      rintro e w9_ ⟨rfl, hb_⟩
      replace HB := Aside0.mk (bt HB.out hb_)
      replace HBX := Aside0.mk (blk_below HBX.out hb_)
      replace HBV := Aside0.mk (blk_below HBV.out hb_)
      replace HYB := Aside0.mk (blk_below HYB.out hb_)
      replace HYI := Aside0.mk (HYI.out.below hb_)
      clear x0_ x1_ x2_ x3_
      clear d0 d1 d2 d3
      clear hb_
      go_wp2_with fail
      go_ret
      exact ⟨ret_bool rfl, HB.out⟩
    subst hz
    go_wp2_with fail
    refine (lland_c Y _ HYI.out HFY.out).mono ?_
    rintro e w9_ ⟨L, rfl, hO, hL, hb_⟩
    replace HB := Aside0.mk (bt HB.out hb_)
    replace HBX := Aside0.mk (blk_below HBX.out hb_)
    replace HBV := Aside0.mk (blk_below HBV.out hb_)
    replace HYB := Aside0.mk (blk_below HYB.out hb_)
    replace HYI := Aside0.mk (HYI.out.below hb_)
    clear x0_ x1_ x2_ x3_
    clear d0 d1 d2 d3
    clear hb_
    have d0 := (blk_cell HBX.out 0).trans rfl
    have d1 := (blk_cell HBX.out 1).trans rfl
    have d2 := (blk_cell HBX.out 2).trans rfl
    have d3 := (blk_cell HBX.out 3).trans rfl
    have x0_ := (blk_cell HYB.out 0).trans rfl
    have x1_ := (blk_cell HYB.out 1).trans rfl
    have x2_ := (blk_cell HYB.out 2).trans rfl
    have x3_ := (blk_cell HYB.out 3).trans rfl
    have HO := Aside0.mk hO
    have HL := Aside0.mk hL
    clear hO hL
    go_wp2_with fail
    refine (of_walls HO.out HL.out pa pb ck 0).mono ?_
    rintro e w10_ ⟨Ax, cx, Ay, cy, rfl, hX_, hY_, hb_⟩
    replace HB := Aside0.mk (bt HB.out hb_)
    replace HBX := Aside0.mk (blk_below HBX.out hb_)
    replace HBV := Aside0.mk (blk_below HBV.out hb_)
    replace HYB := Aside0.mk (blk_below HYB.out hb_)
    replace HYI := Aside0.mk (HYI.out.below hb_)
    clear x0_ x1_ x2_ x3_
    clear d0 d1 d2 d3
    clear hb_
    have d0 := (blk_cell HBX.out 0).trans rfl
    have d1 := (blk_cell HBX.out 1).trans rfl
    have d2 := (blk_cell HBX.out 2).trans rfl
    have d3 := (blk_cell HBX.out 3).trans rfl
    have x0_ := (blk_cell HYB.out 0).trans rfl
    have x1_ := (blk_cell HYB.out 1).trans rfl
    have x2_ := (blk_cell HYB.out 2).trans rfl
    have x3_ := (blk_cell HYB.out 3).trans rfl
    have HE := Aside0.mk (walls_ok HYC.out HQY.out)
    rw [HE.out] at hY_
    rw [HE.out]
    have HQS := Aside0.mk hY_
    clear hX_ hY_ HO HL HE
    generalize cloudsL Y.lv pa pb ck 0 = qs at *
    have lq := HQS.out.2.1
    clear x0_ x1_ x2_ x3_
    clear d0 d1 d2 d3
    have d0 := (blk_cell HBX.out 0).trans rfl
    have d1 := (blk_cell HBX.out 1).trans rfl
    have d2 := (blk_cell HBX.out 2).trans rfl
    have d3 := (blk_cell HBX.out 3).trans rfl
    have x0_ := (blk_cell HYB.out 0).trans rfl
    have x1_ := (blk_cell HYB.out 1).trans rfl
    have x2_ := (blk_cell HYB.out 2).trans rfl
    have x3_ := (blk_cell HYB.out 3).trans rfl
    obtain ⟨ad, ea_, y0, y1, y2, y3⟩ := at_T65 (Kd.C_below HI.out.r0 HB.out) pa HP.out.1.1 HP.out.1.2
    obtain ⟨ae, eb_, z0, z1, z2, z3⟩ := at_T65 (Kd.C_below HI.out.r0 HB.out) pb HP.out.2.1.1 HP.out.2.1.2
    have ee_ := ea_.symm.trans eb_
    injection ee_ with ee_
    subst ee_
    clear eb_ y0 y1 y3 z0 z1 z3
    rw [ea_] at d0
    have p0 := HP.out.1.1
    have p1 := HP.out.1.2
    have p2 := HP.out.2.1.1
    have p3 := HP.out.2.1.2
    go_upto_region 12 with (fail)
    have HD0 := Aside0.mk d0
    have HY2 := Aside0.mk y2
    have HZ2 := Aside0.mk z2
    clear y2 z2 ea_
    obtain ⟨lo, hlo⟩ : ∃ lo : Int, lo = min (rd_T65 a0.st pa).f2 (rd_T65 a0.st pb).f2 := ⟨_, rfl⟩
    obtain ⟨hi, hhi⟩ : ∃ hi : Int, hi = max (rd_T65 a0.st pa).f2 (rd_T65 a0.st pb).f2 := ⟨_, rfl⟩
    have HMM := Aside0.mk (And.intro hlo hhi)
    clear hlo hhi
    clear x0_ x1_ x2_ x3_
    clear d0 d1 d2 d3
    refine start_ (n := 28) (S := fun w' => True) (ds := []) #[false, false, false, false, false, false, false, false, false, false, false, false, false, false, false, false, false, false, false, false, false, false, false, false, false, false, false, false] (by kernel_rfl) rfl rfl trivial (fun hHeld => ?_)
    refine with_tabW over.tab12 over.bits12 (fun HT_ HW_ => ?_)
    have BW := Aside0.mk (below_drew (Below.refl w10_.heap.size w10_))
    generalize w10_.drew = we_ at *
    refine inv_at [0, 1, 2, 3, 4, 5, 6, 7, 8, 9, 10, 11, 12, 13, 14, 15, 16, 17, 18, 19, 20, 21, 22, 23, 24, 25, 26, 27] (fun a0_ b a w' => a = putSel a0_ b [(0, 70, .pointer (some ⟨w.heap.size, 0, none⟩)), (1, 71, .slice (some ad) a0.st.length a0.c0), (2, 72, .int .i64 pa), (3, 73, .pointer (some (ad.add (pa.toNat * 4)))), (4, 74, .pointer (some ⟨(ad.add (pa.toNat * 4)).block, (ad.add (pa.toNat * 4)).off + 2, none⟩)), (5, 75, .int .i64 (rd_T65 a0.st pa).f2), (6, 76, .pointer (some ⟨w.heap.size, 0, none⟩)), (7, 77, .slice (some ad) a0.st.length a0.c0), (8, 78, .int .i64 pb), (9, 79, .pointer (some (ad.add (pb.toNat * 4)))), (10, 80, .pointer (some ⟨(ad.add (pb.toNat * 4)).block, (ad.add (pb.toNat * 4)).off + 2, none⟩)), (11, 81, .int .i64 (rd_T65 a0.st pb).f2), (12, 82, .int .i64 lo), (13, 83, .pointer (some ⟨w.heap.size, 0, none⟩)), (14, 84, .slice (some ad) a0.st.length a0.c0), (15, 85, .int .i64 pa), (16, 86, .pointer (some (ad.add (pa.toNat * 4)))), (17, 87, .pointer (some ⟨(ad.add (pa.toNat * 4)).block, (ad.add (pa.toNat * 4)).off + 2, none⟩)), (18, 88, .int .i64 (rd_T65 a0.st pa).f2), (19, 89, .pointer (some ⟨w.heap.size, 0, none⟩)), (20, 90, .slice (some ad) a0.st.length a0.c0), (21, 91, .int .i64 pb), (22, 92, .pointer (some (ad.add (pb.toNat * 4)))), (23, 93, .pointer (some ⟨(ad.add (pb.toNat * 4)).block, (ad.add (pb.toNat * 4)).off + 2, none⟩)), (24, 94, .int .i64 (rd_T65 a0.st pb).f2), (25, 95, .int .i64 hi), (26, 16, .int .i64 lo), (27, 17, .int .i64 hi)] ∧ (Below w10_.heap.size w10_ w')) HT_.out HW_.out (by kernel_rfl) (by kernel_rfl) ?_ ?_ ?_
    · exact ⟨by simp only [putSel, Bool.false_eq_true, if_false], BW.out⟩
    · skip
      clear BW
      refine steps_cons ?_ ?_
      · rintro b a w' ⟨ha, Q_BW⟩ hb_ hon hoff
        refine ⟨_, rfl, fun K hK => ?_⟩
        have e4 : a.tmps[4]? = some (.pointer (some ⟨w.heap.size, 0, none⟩)) := by rw [ha]; exact (putSel_off rfl).trans rfl
        replace ha := Aside0.mk ha
        have BW := Aside0.mk Q_BW
        refine value_ (w1 := w') (v := .pointer (some ⟨w.heap.size, 0, none⟩)) (by rfl) rfl ?_ ?_
        · go_simp
          (try simp only [i64_w])
          try rfl
        refine hK.out _ _ ⟨(by rw [ha.out]; exact putSel_upk 0 hb_ rfl rfl rfl), Q_BW⟩
      refine steps_cons ?_ ?_
      · rintro b a w' ⟨ha, Q_BW⟩ hb_ hon hoff
        refine ⟨_, rfl, fun K hK => ?_⟩
        have e70 : a.tmps[70]? = some (.pointer (some ⟨w.heap.size, 0, none⟩)) := by rw [ha]; exact putSel_on (e := (0, 70, .pointer (some ⟨w.heap.size, 0, none⟩))) 0 rfl rfl (hon 0 (by kernel_rfl)) rfl
        replace ha := Aside0.mk ha
        have BW := Aside0.mk Q_BW
        have k0_ := cb BW.out HD0.out
        refine value_ (w1 := w') (v := .slice (some ad) a0.st.length a0.c0) (by rfl) rfl ?_ ?_
        · go_simp
          (try simp only [i64_w])
          try rfl
        refine hK.out _ _ ⟨(by rw [ha.out]; exact putSel_upk 1 hb_ rfl rfl rfl), Q_BW⟩
      refine steps_cons ?_ ?_
      · rintro b a w' ⟨ha, Q_BW⟩ hb_ hon hoff
        refine ⟨_, rfl, fun K hK => ?_⟩
        have e9 : a.tmps[9]? = some (.int .i64 pa) := by rw [ha]; exact (putSel_off rfl).trans rfl
        replace ha := Aside0.mk ha
        have BW := Aside0.mk Q_BW
        refine value_ (w1 := w') (v := .int .i64 pa) (by rfl) rfl ?_ ?_
        · go_simp
          (try simp only [i64_w])
          try rfl
        refine hK.out _ _ ⟨(by rw [ha.out]; exact putSel_upk 2 hb_ rfl rfl rfl), Q_BW⟩
      refine steps_cons ?_ ?_
      · rintro b a w' ⟨ha, Q_BW⟩ hb_ hon hoff
        refine ⟨_, rfl, fun K hK => ?_⟩
        have e71 : a.tmps[71]? = some (.slice (some ad) a0.st.length a0.c0) := by rw [ha]; exact putSel_on (e := (1, 71, .slice (some ad) a0.st.length a0.c0)) 1 rfl rfl (hon 1 (by kernel_rfl)) rfl
        have e72 : a.tmps[72]? = some (.int .i64 pa) := by rw [ha]; exact putSel_on (e := (2, 72, .int .i64 pa)) 2 rfl rfl (hon 2 (by kernel_rfl)) rfl
        replace ha := Aside0.mk ha
        have BW := Aside0.mk Q_BW
        refine value_ (w1 := w') (v := .pointer (some (ad.add (pa.toNat * 4)))) (by rfl) rfl ?_ ?_
        · go_simp
          (try simp only [i64_w])
          try rfl
        refine hK.out _ _ ⟨(by rw [ha.out]; exact putSel_upk 3 hb_ rfl rfl rfl), Q_BW⟩
      refine steps_cons ?_ ?_
      · rintro b a w' ⟨ha, Q_BW⟩ hb_ hon hoff
        refine ⟨_, rfl, fun K hK => ?_⟩
        have e73 : a.tmps[73]? = some (.pointer (some (ad.add (pa.toNat * 4)))) := by rw [ha]; exact putSel_on (e := (3, 73, .pointer (some (ad.add (pa.toNat * 4))))) 3 rfl rfl (hon 3 (by kernel_rfl)) rfl
        replace ha := Aside0.mk ha
        have BW := Aside0.mk Q_BW
        refine value_ (w1 := w') (v := .pointer (some ⟨(ad.add (pa.toNat * 4)).block, (ad.add (pa.toNat * 4)).off + 2, none⟩)) (by rfl) rfl ?_ ?_
        · go_simp
          (try simp only [i64_w])
          try rfl
        refine hK.out _ _ ⟨(by rw [ha.out]; exact putSel_upk 4 hb_ rfl rfl rfl), Q_BW⟩
      refine steps_cons ?_ ?_
      · rintro b a w' ⟨ha, Q_BW⟩ hb_ hon hoff
        refine ⟨_, rfl, fun K hK => ?_⟩
        have e74 : a.tmps[74]? = some (.pointer (some ⟨(ad.add (pa.toNat * 4)).block, (ad.add (pa.toNat * 4)).off + 2, none⟩)) := by rw [ha]; exact putSel_on (e := (4, 74, .pointer (some ⟨(ad.add (pa.toNat * 4)).block, (ad.add (pa.toNat * 4)).off + 2, none⟩))) 4 rfl rfl (hon 4 (by kernel_rfl)) rfl
        replace ha := Aside0.mk ha
        have BW := Aside0.mk Q_BW
        have k0_ := cb BW.out HY2.out
        refine value_ (w1 := w') (v := .int .i64 (rd_T65 a0.st pa).f2) (by rfl) rfl ?_ ?_
        · go_simp
          (try simp only [i64_w])
          try rfl
        refine hK.out _ _ ⟨(by rw [ha.out]; exact putSel_upk 5 hb_ rfl rfl rfl), Q_BW⟩
      refine steps_cons ?_ ?_
      · rintro b a w' ⟨ha, Q_BW⟩ hb_ hon hoff
        refine ⟨_, rfl, fun K hK => ?_⟩
        have e4 : a.tmps[4]? = some (.pointer (some ⟨w.heap.size, 0, none⟩)) := by rw [ha]; exact (putSel_off rfl).trans rfl
        replace ha := Aside0.mk ha
        have BW := Aside0.mk Q_BW
        refine value_ (w1 := w') (v := .pointer (some ⟨w.heap.size, 0, none⟩)) (by rfl) rfl ?_ ?_
        · go_simp
          (try simp only [i64_w])
          try rfl
        refine hK.out _ _ ⟨(by rw [ha.out]; exact putSel_upk 6 hb_ rfl rfl rfl), Q_BW⟩
      refine steps_cons ?_ ?_
      · rintro b a w' ⟨ha, Q_BW⟩ hb_ hon hoff
        refine ⟨_, rfl, fun K hK => ?_⟩
        have e76 : a.tmps[76]? = some (.pointer (some ⟨w.heap.size, 0, none⟩)) := by rw [ha]; exact putSel_on (e := (6, 76, .pointer (some ⟨w.heap.size, 0, none⟩))) 6 rfl rfl (hon 6 (by kernel_rfl)) rfl
        replace ha := Aside0.mk ha
        have BW := Aside0.mk Q_BW
        have k0_ := cb BW.out HD0.out
        refine value_ (w1 := w') (v := .slice (some ad) a0.st.length a0.c0) (by rfl) rfl ?_ ?_
        · go_simp
          (try simp only [i64_w])
          try rfl
        refine hK.out _ _ ⟨(by rw [ha.out]; exact putSel_upk 7 hb_ rfl rfl rfl), Q_BW⟩
      refine steps_cons ?_ ?_
      · rintro b a w' ⟨ha, Q_BW⟩ hb_ hon hoff
        refine ⟨_, rfl, fun K hK => ?_⟩
        have e10 : a.tmps[10]? = some (.int .i64 pb) := by rw [ha]; exact (putSel_off rfl).trans rfl
        replace ha := Aside0.mk ha
        have BW := Aside0.mk Q_BW
        refine value_ (w1 := w') (v := .int .i64 pb) (by rfl) rfl ?_ ?_
        · go_simp
          (try simp only [i64_w])
          try rfl
        refine hK.out _ _ ⟨(by rw [ha.out]; exact putSel_upk 8 hb_ rfl rfl rfl), Q_BW⟩
      refine steps_cons ?_ ?_
      · rintro b a w' ⟨ha, Q_BW⟩ hb_ hon hoff
        refine ⟨_, rfl, fun K hK => ?_⟩
        have e77 : a.tmps[77]? = some (.slice (some ad) a0.st.length a0.c0) := by rw [ha]; exact putSel_on (e := (7, 77, .slice (some ad) a0.st.length a0.c0)) 7 rfl rfl (hon 7 (by kernel_rfl)) rfl
        have e78 : a.tmps[78]? = some (.int .i64 pb) := by rw [ha]; exact putSel_on (e := (8, 78, .int .i64 pb)) 8 rfl rfl (hon 8 (by kernel_rfl)) rfl
        replace ha := Aside0.mk ha
        have BW := Aside0.mk Q_BW
        refine value_ (w1 := w') (v := .pointer (some (ad.add (pb.toNat * 4)))) (by rfl) rfl ?_ ?_
        · go_simp
          (try simp only [i64_w])
          try rfl
        refine hK.out _ _ ⟨(by rw [ha.out]; exact putSel_upk 9 hb_ rfl rfl rfl), Q_BW⟩
      refine steps_cons ?_ ?_
      · rintro b a w' ⟨ha, Q_BW⟩ hb_ hon hoff
        refine ⟨_, rfl, fun K hK => ?_⟩
        have e79 : a.tmps[79]? = some (.pointer (some (ad.add (pb.toNat * 4)))) := by rw [ha]; exact putSel_on (e := (9, 79, .pointer (some (ad.add (pb.toNat * 4))))) 9 rfl rfl (hon 9 (by kernel_rfl)) rfl
        replace ha := Aside0.mk ha
        have BW := Aside0.mk Q_BW
        refine value_ (w1 := w') (v := .pointer (some ⟨(ad.add (pb.toNat * 4)).block, (ad.add (pb.toNat * 4)).off + 2, none⟩)) (by rfl) rfl ?_ ?_
        · go_simp
          (try simp only [i64_w])
          try rfl
        refine hK.out _ _ ⟨(by rw [ha.out]; exact putSel_upk 10 hb_ rfl rfl rfl), Q_BW⟩
      refine steps_cons ?_ ?_
      · rintro b a w' ⟨ha, Q_BW⟩ hb_ hon hoff
        refine ⟨_, rfl, fun K hK => ?_⟩
        have e80 : a.tmps[80]? = some (.pointer (some ⟨(ad.add (pb.toNat * 4)).block, (ad.add (pb.toNat * 4)).off + 2, none⟩)) := by rw [ha]; exact putSel_on (e := (10, 80, .pointer (some ⟨(ad.add (pb.toNat * 4)).block, (ad.add (pb.toNat * 4)).off + 2, none⟩))) 10 rfl rfl (hon 10 (by kernel_rfl)) rfl
        replace ha := Aside0.mk ha
        have BW := Aside0.mk Q_BW
        have k0_ := cb BW.out HZ2.out
        refine value_ (w1 := w') (v := .int .i64 (rd_T65 a0.st pb).f2) (by rfl) rfl ?_ ?_
        · go_simp
          (try simp only [i64_w])
          try rfl
        refine hK.out _ _ ⟨(by rw [ha.out]; exact putSel_upk 11 hb_ rfl rfl rfl), Q_BW⟩
      refine steps_cons ?_ ?_
      · rintro b a w' ⟨ha, Q_BW⟩ hb_ hon hoff
        refine ⟨_, rfl, fun K hK => ?_⟩
        have e75 : a.tmps[75]? = some (.int .i64 (rd_T65 a0.st pa).f2) := by rw [ha]; exact putSel_on (e := (5, 75, .int .i64 (rd_T65 a0.st pa).f2)) 5 rfl rfl (hon 5 (by kernel_rfl)) rfl
        have e81 : a.tmps[81]? = some (.int .i64 (rd_T65 a0.st pb).f2) := by rw [ha]; exact putSel_on (e := (11, 81, .int .i64 (rd_T65 a0.st pb).f2)) 11 rfl rfl (hon 11 (by kernel_rfl)) rfl
        replace ha := Aside0.mk ha
        have BW := Aside0.mk Q_BW
        refine value_ (w1 := w') (v := .int .i64 lo) (by rfl) rfl ?_ ?_
        · rw [HMM.out.1]
          go_simp
          split <;> omega
        refine hK.out _ _ ⟨(by rw [ha.out]; exact putSel_upk 12 hb_ rfl rfl rfl), BW.out⟩
      refine steps_cons ?_ ?_
      · rintro b a w' ⟨ha, Q_BW⟩ hb_ hon hoff
        refine ⟨_, rfl, fun K hK => ?_⟩
        have e4 : a.tmps[4]? = some (.pointer (some ⟨w.heap.size, 0, none⟩)) := by rw [ha]; exact (putSel_off rfl).trans rfl
        replace ha := Aside0.mk ha
        have BW := Aside0.mk Q_BW
        refine value_ (w1 := w') (v := .pointer (some ⟨w.heap.size, 0, none⟩)) (by rfl) rfl ?_ ?_
        · go_simp
          (try simp only [i64_w])
          try rfl
        refine hK.out _ _ ⟨(by rw [ha.out]; exact putSel_upk 13 hb_ rfl rfl rfl), Q_BW⟩
      refine steps_cons ?_ ?_
      · rintro b a w' ⟨ha, Q_BW⟩ hb_ hon hoff
        refine ⟨_, rfl, fun K hK => ?_⟩
        have e83 : a.tmps[83]? = some (.pointer (some ⟨w.heap.size, 0, none⟩)) := by rw [ha]; exact putSel_on (e := (13, 83, .pointer (some ⟨w.heap.size, 0, none⟩))) 13 rfl rfl (hon 13 (by kernel_rfl)) rfl
        replace ha := Aside0.mk ha
        have BW := Aside0.mk Q_BW
        have k0_ := cb BW.out HD0.out
        refine value_ (w1 := w') (v := .slice (some ad) a0.st.length a0.c0) (by rfl) rfl ?_ ?_
        · go_simp
          (try simp only [i64_w])
          try rfl
        refine hK.out _ _ ⟨(by rw [ha.out]; exact putSel_upk 14 hb_ rfl rfl rfl), Q_BW⟩
      refine steps_cons ?_ ?_
      · rintro b a w' ⟨ha, Q_BW⟩ hb_ hon hoff
        refine ⟨_, rfl, fun K hK => ?_⟩
        have e9 : a.tmps[9]? = some (.int .i64 pa) := by rw [ha]; exact (putSel_off rfl).trans rfl
        replace ha := Aside0.mk ha
        have BW := Aside0.mk Q_BW
        refine value_ (w1 := w') (v := .int .i64 pa) (by rfl) rfl ?_ ?_
        · go_simp
          (try simp only [i64_w])
          try rfl
        refine hK.out _ _ ⟨(by rw [ha.out]; exact putSel_upk 15 hb_ rfl rfl rfl), Q_BW⟩
      refine steps_cons ?_ ?_
      · rintro b a w' ⟨ha, Q_BW⟩ hb_ hon hoff
        refine ⟨_, rfl, fun K hK => ?_⟩
        have e84 : a.tmps[84]? = some (.slice (some ad) a0.st.length a0.c0) := by rw [ha]; exact putSel_on (e := (14, 84, .slice (some ad) a0.st.length a0.c0)) 14 rfl rfl (hon 14 (by kernel_rfl)) rfl
        have e85 : a.tmps[85]? = some (.int .i64 pa) := by rw [ha]; exact putSel_on (e := (15, 85, .int .i64 pa)) 15 rfl rfl (hon 15 (by kernel_rfl)) rfl
        replace ha := Aside0.mk ha
        have BW := Aside0.mk Q_BW
        refine value_ (w1 := w') (v := .pointer (some (ad.add (pa.toNat * 4)))) (by rfl) rfl ?_ ?_
        · go_simp
          (try simp only [i64_w])
          try rfl
        refine hK.out _ _ ⟨(by rw [ha.out]; exact putSel_upk 16 hb_ rfl rfl rfl), Q_BW⟩
      refine steps_cons ?_ ?_
      · rintro b a w' ⟨ha, Q_BW⟩ hb_ hon hoff
        refine ⟨_, rfl, fun K hK => ?_⟩
        have e86 : a.tmps[86]? = some (.pointer (some (ad.add (pa.toNat * 4)))) := by rw [ha]; exact putSel_on (e := (16, 86, .pointer (some (ad.add (pa.toNat * 4))))) 16 rfl rfl (hon 16 (by kernel_rfl)) rfl
        replace ha := Aside0.mk ha
        have BW := Aside0.mk Q_BW
        refine value_ (w1 := w') (v := .pointer (some ⟨(ad.add (pa.toNat * 4)).block, (ad.add (pa.toNat * 4)).off + 2, none⟩)) (by rfl) rfl ?_ ?_
        · go_simp
          (try simp only [i64_w])
          try rfl
        refine hK.out _ _ ⟨(by rw [ha.out]; exact putSel_upk 17 hb_ rfl rfl rfl), Q_BW⟩
      refine steps_cons ?_ ?_
      · rintro b a w' ⟨ha, Q_BW⟩ hb_ hon hoff
        refine ⟨_, rfl, fun K hK => ?_⟩
        have e87 : a.tmps[87]? = some (.pointer (some ⟨(ad.add (pa.toNat * 4)).block, (ad.add (pa.toNat * 4)).off + 2, none⟩)) := by rw [ha]; exact putSel_on (e := (17, 87, .pointer (some ⟨(ad.add (pa.toNat * 4)).block, (ad.add (pa.toNat * 4)).off + 2, none⟩))) 17 rfl rfl (hon 17 (by kernel_rfl)) rfl
        replace ha := Aside0.mk ha
        have BW := Aside0.mk Q_BW
        have k0_ := cb BW.out HY2.out
        refine value_ (w1 := w') (v := .int .i64 (rd_T65 a0.st pa).f2) (by rfl) rfl ?_ ?_
        · go_simp
          (try simp only [i64_w])
          try rfl
        refine hK.out _ _ ⟨(by rw [ha.out]; exact putSel_upk 18 hb_ rfl rfl rfl), Q_BW⟩
      refine steps_cons ?_ ?_
      · rintro b a w' ⟨ha, Q_BW⟩ hb_ hon hoff
        refine ⟨_, rfl, fun K hK => ?_⟩
        have e4 : a.tmps[4]? = some (.pointer (some ⟨w.heap.size, 0, none⟩)) := by rw [ha]; exact (putSel_off rfl).trans rfl
        replace ha := Aside0.mk ha
        have BW := Aside0.mk Q_BW
        refine value_ (w1 := w') (v := .pointer (some ⟨w.heap.size, 0, none⟩)) (by rfl) rfl ?_ ?_
        · go_simp
          (try simp only [i64_w])
          try rfl
        refine hK.out _ _ ⟨(by rw [ha.out]; exact putSel_upk 19 hb_ rfl rfl rfl), Q_BW⟩
      refine steps_cons ?_ ?_
      · rintro b a w' ⟨ha, Q_BW⟩ hb_ hon hoff
        refine ⟨_, rfl, fun K hK => ?_⟩
        have e89 : a.tmps[89]? = some (.pointer (some ⟨w.heap.size, 0, none⟩)) := by rw [ha]; exact putSel_on (e := (19, 89, .pointer (some ⟨w.heap.size, 0, none⟩))) 19 rfl rfl (hon 19 (by kernel_rfl)) rfl
        replace ha := Aside0.mk ha
        have BW := Aside0.mk Q_BW
        have k0_ := cb BW.out HD0.out
        refine value_ (w1 := w') (v := .slice (some ad) a0.st.length a0.c0) (by rfl) rfl ?_ ?_
        · go_simp
          (try simp only [i64_w])
          try rfl
        refine hK.out _ _ ⟨(by rw [ha.out]; exact putSel_upk 20 hb_ rfl rfl rfl), Q_BW⟩
      refine steps_cons ?_ ?_
      · rintro b a w' ⟨ha, Q_BW⟩ hb_ hon hoff
        refine ⟨_, rfl, fun K hK => ?_⟩
        have e10 : a.tmps[10]? = some (.int .i64 pb) := by rw [ha]; exact (putSel_off rfl).trans rfl
        replace ha := Aside0.mk ha
        have BW := Aside0.mk Q_BW
        refine value_ (w1 := w') (v := .int .i64 pb) (by rfl) rfl ?_ ?_
        · go_simp
          (try simp only [i64_w])
          try rfl
        refine hK.out _ _ ⟨(by rw [ha.out]; exact putSel_upk 21 hb_ rfl rfl rfl), Q_BW⟩
      refine steps_cons ?_ ?_
      · rintro b a w' ⟨ha, Q_BW⟩ hb_ hon hoff
        refine ⟨_, rfl, fun K hK => ?_⟩
        have e90 : a.tmps[90]? = some (.slice (some ad) a0.st.length a0.c0) := by rw [ha]; exact putSel_on (e := (20, 90, .slice (some ad) a0.st.length a0.c0)) 20 rfl rfl (hon 20 (by kernel_rfl)) rfl
        have e91 : a.tmps[91]? = some (.int .i64 pb) := by rw [ha]; exact putSel_on (e := (21, 91, .int .i64 pb)) 21 rfl rfl (hon 21 (by kernel_rfl)) rfl
        replace ha := Aside0.mk ha
        have BW := Aside0.mk Q_BW
        refine value_ (w1 := w') (v := .pointer (some (ad.add (pb.toNat * 4)))) (by rfl) rfl ?_ ?_
        · go_simp
          (try simp only [i64_w])
          try rfl
        refine hK.out _ _ ⟨(by rw [ha.out]; exact putSel_upk 22 hb_ rfl rfl rfl), Q_BW⟩
      refine steps_cons ?_ ?_
      · rintro b a w' ⟨ha, Q_BW⟩ hb_ hon hoff
        refine ⟨_, rfl, fun K hK => ?_⟩
        have e92 : a.tmps[92]? = some (.pointer (some (ad.add (pb.toNat * 4)))) := by rw [ha]; exact putSel_on (e := (22, 92, .pointer (some (ad.add (pb.toNat * 4))))) 22 rfl rfl (hon 22 (by kernel_rfl)) rfl
        replace ha := Aside0.mk ha
        have BW := Aside0.mk Q_BW
        refine value_ (w1 := w') (v := .pointer (some ⟨(ad.add (pb.toNat * 4)).block, (ad.add (pb.toNat * 4)).off + 2, none⟩)) (by rfl) rfl ?_ ?_
        · go_simp
          (try simp only [i64_w])
          try rfl
        refine hK.out _ _ ⟨(by rw [ha.out]; exact putSel_upk 23 hb_ rfl rfl rfl), Q_BW⟩
      refine steps_cons ?_ ?_
      · rintro b a w' ⟨ha, Q_BW⟩ hb_ hon hoff
        refine ⟨_, rfl, fun K hK => ?_⟩
        have e93 : a.tmps[93]? = some (.pointer (some ⟨(ad.add (pb.toNat * 4)).block, (ad.add (pb.toNat * 4)).off + 2, none⟩)) := by rw [ha]; exact putSel_on (e := (23, 93, .pointer (some ⟨(ad.add (pb.toNat * 4)).block, (ad.add (pb.toNat * 4)).off + 2, none⟩))) 23 rfl rfl (hon 23 (by kernel_rfl)) rfl
        replace ha := Aside0.mk ha
        have BW := Aside0.mk Q_BW
        have k0_ := cb BW.out HZ2.out
        refine value_ (w1 := w') (v := .int .i64 (rd_T65 a0.st pb).f2) (by rfl) rfl ?_ ?_
        · go_simp
          (try simp only [i64_w])
          try rfl
        refine hK.out _ _ ⟨(by rw [ha.out]; exact putSel_upk 24 hb_ rfl rfl rfl), Q_BW⟩
      refine steps_cons ?_ ?_
      · rintro b a w' ⟨ha, Q_BW⟩ hb_ hon hoff
        refine ⟨_, rfl, fun K hK => ?_⟩
        have e88 : a.tmps[88]? = some (.int .i64 (rd_T65 a0.st pa).f2) := by rw [ha]; exact putSel_on (e := (18, 88, .int .i64 (rd_T65 a0.st pa).f2)) 18 rfl rfl (hon 18 (by kernel_rfl)) rfl
        have e94 : a.tmps[94]? = some (.int .i64 (rd_T65 a0.st pb).f2) := by rw [ha]; exact putSel_on (e := (24, 94, .int .i64 (rd_T65 a0.st pb).f2)) 24 rfl rfl (hon 24 (by kernel_rfl)) rfl
        replace ha := Aside0.mk ha
        have BW := Aside0.mk Q_BW
        refine value_ (w1 := w') (v := .int .i64 hi) (by rfl) rfl ?_ ?_
        · rw [HMM.out.2]
          go_simp
          split <;> omega
        refine hK.out _ _ ⟨(by rw [ha.out]; exact putSel_upk 25 hb_ rfl rfl rfl), BW.out⟩
      refine steps_cons ?_ ?_
      · rintro b a w' ⟨ha, Q_BW⟩ hb_ hon hoff
        refine ⟨_, rfl, fun K hK => ?_⟩
        have e82 : a.tmps[82]? = some (.int .i64 lo) := by rw [ha]; exact putSel_on (e := (12, 82, .int .i64 lo)) 12 rfl rfl (hon 12 (by kernel_rfl)) rfl
        replace ha := Aside0.mk ha
        have BW := Aside0.mk Q_BW
        refine value_ (w1 := w') (v := .int .i64 lo) (by rfl) rfl ?_ ?_
        · go_simp
          (try simp only [i64_w])
          try rfl
        refine hK.out _ _ ⟨(by rw [ha.out]; exact putSel_upk 26 hb_ rfl rfl rfl), Q_BW⟩
      refine steps_cons ?_ ?_
      · rintro b a w' ⟨ha, Q_BW⟩ hb_ hon hoff
        refine ⟨_, rfl, fun K hK => ?_⟩
        have e95 : a.tmps[95]? = some (.int .i64 hi) := by rw [ha]; exact putSel_on (e := (25, 95, .int .i64 hi)) 25 rfl rfl (hon 25 (by kernel_rfl)) rfl
        replace ha := Aside0.mk ha
        have BW := Aside0.mk Q_BW
        refine value_ (w1 := w') (v := .int .i64 hi) (by rfl) rfl ?_ ?_
        · go_simp
          (try simp only [i64_w])
          try rfl
        refine hK.out _ _ ⟨(by rw [ha.out]; exact putSel_upk 27 hb_ rfl rfl rfl), Q_BW⟩
      exact steps_nil
    · rintro b a w' hall ⟨ha, Q_BW⟩
      clear BW
      have hb0_ := hall 0 (by kernel_rfl)
      have hb1_ := hall 1 (by kernel_rfl)
      have hb2_ := hall 2 (by kernel_rfl)
      have hb3_ := hall 3 (by kernel_rfl)
      have hb4_ := hall 4 (by kernel_rfl)
      have hb5_ := hall 5 (by kernel_rfl)
      have hb6_ := hall 6 (by kernel_rfl)
      have hb7_ := hall 7 (by kernel_rfl)
      have hb8_ := hall 8 (by kernel_rfl)
      have hb9_ := hall 9 (by kernel_rfl)
      have hb10_ := hall 10 (by kernel_rfl)
      have hb11_ := hall 11 (by kernel_rfl)
      have hb12_ := hall 12 (by kernel_rfl)
      have hb13_ := hall 13 (by kernel_rfl)
      have hb14_ := hall 14 (by kernel_rfl)
      have hb15_ := hall 15 (by kernel_rfl)
      have hb16_ := hall 16 (by kernel_rfl)
      have hb17_ := hall 17 (by kernel_rfl)
      have hb18_ := hall 18 (by kernel_rfl)
      have hb19_ := hall 19 (by kernel_rfl)
      have hb20_ := hall 20 (by kernel_rfl)
      have hb21_ := hall 21 (by kernel_rfl)
      have hb22_ := hall 22 (by kernel_rfl)
      have hb23_ := hall 23 (by kernel_rfl)
      have hb24_ := hall 24 (by kernel_rfl)
      have hb25_ := hall 25 (by kernel_rfl)
      have hb26_ := hall 26 (by kernel_rfl)
      have hb27_ := hall 27 (by kernel_rfl)
      subst ha
      simp only [putSel, hb0_, hb1_, hb2_, hb3_, hb4_, hb5_, hb6_, hb7_, hb8_, hb9_, hb10_, hb11_, hb12_, hb13_, hb14_, hb15_, hb16_, hb17_, hb18_, hb19_, hb20_, hb21_, hb22_, hb23_, hb24_, hb25_, hb26_, hb27_, if_true, Act.put, List.setIfInBounds_toArray, List.set_cons_zero, List.set_cons_succ]
      have BW := Aside0.mk Q_BW
      clear Q_BW
      clear hall hb0_ hb1_ hb2_ hb3_ hb4_ hb5_ hb6_ hb7_ hb8_ hb9_ hb10_ hb11_ hb12_ hb13_ hb14_ hb15_ hb16_ hb17_ hb18_ hb19_ hb20_ hb21_ hb22_ hb23_ hb24_ hb25_ hb26_ hb27_
      clear HD0 HY2 HZ2
      replace HB := Aside0.mk (bt HB.out BW.out)
      replace HBX := Aside0.mk (blk_below HBX.out BW.out)
      replace HQS := Aside0.mk (Kd.C_below HQS.out BW.out)
      replace HBV := Aside0.mk (blk_below HBV.out BW.out)
      replace HYB := Aside0.mk (blk_below HYB.out BW.out)
      replace HYI := Aside0.mk (HYI.out.below BW.out)
      clear BW p0 p1 p2 p3
      have d0 := (blk_cell HBX.out 0).trans rfl
      have d1 := (blk_cell HBX.out 1).trans rfl
      have d2 := (blk_cell HBX.out 2).trans rfl
      have d3 := (blk_cell HBX.out 3).trans rfl
      have x0_ := (blk_cell HYB.out 0).trans rfl
      have x1_ := (blk_cell HYB.out 1).trans rfl
      have x2_ := (blk_cell HYB.out 2).trans rfl
      have x3_ := (blk_cell HYB.out 3).trans rfl
      have v0_ := (blk_cell HBV.out 0).trans rfl
      have v1_ := (blk_cell HBV.out 1).trans rfl
      have v2_ := (blk_cell HBV.out 2).trans rfl
      have v3_ := (blk_cell HBV.out 3).trans rfl
      have v4_ := (blk_cell HBV.out 4).trans rfl
      have v5_ := (blk_cell HBV.out 5).trans rfl
      obtain ⟨af, Ai, ci, ef_, hcc_, hle_, _⟩ := at_L3 (Kd.C_below HI.out.r2 HB.out) ck HK.out.1 HK.out.2
      rw [ef_] at d2
      have p0 := HK.out.1
      have p1 := HK.out.2
      generalize hm : (rd_L3 a0.ca ck).length = m at *
      clear hm hle_
      have lm := HML.out
      go_wp2_with fail
      clear hcc_
      have hl : Kd.C (Kd.int .i64) (w'.alloc (.cells #[.int .i64 (m : Int)] 3)) (some ⟨w'.heap.size, 0, none⟩) 1 [(m : Int)] := C_flat (α := Int) (d := Kd.int .i64) (blk_new w' _) (fun n => [.int .i64 n]) (by show 1 ≤ _; omega) rfl (fun _ => rfl)
      have hbn := b1 w' (.cells #[.int .i64 (m : Int)] 3)
      refine (within_l (some ⟨w'.heap.size, 0, none⟩) Ay 1 cy [(m : Int)] qs _ hl (Kd.C_below HQS.out hbn)).mono ?_
      rintro e w11_ ⟨rfl, hb_⟩
      replace HB := Aside0.mk (bt HB.out (bt hbn hb_))
      replace HBX := Aside0.mk (blk_below HBX.out (bt hbn hb_))
      replace HQS := Aside0.mk (Kd.C_below HQS.out (bt hbn hb_))
      replace HBV := Aside0.mk (blk_below HBV.out (bt hbn hb_))
      replace HYB := Aside0.mk (blk_below HYB.out (bt hbn hb_))
      replace HYI := Aside0.mk (HYI.out.below (bt hbn hb_))
      clear x0_ x1_ x2_ x3_
      clear v0_ v1_ v2_ v3_ v4_ v5_
      clear d0 d1 d2 d3
      clear hl hbn hb_
      cases hh : withinB [(m : Int)] qs
      · clear hh
        have d0 := (blk_cell HBX.out 0).trans rfl
        have d1 := (blk_cell HBX.out 1).trans rfl
        have d2 := (blk_cell HBX.out 2).trans rfl
        have d3 := (blk_cell HBX.out 3).trans rfl
        have x0_ := (blk_cell HYB.out 0).trans rfl
        have x1_ := (blk_cell HYB.out 1).trans rfl
        have x2_ := (blk_cell HYB.out 2).trans rfl
        have x3_ := (blk_cell HYB.out 3).trans rfl
        have v0_ := (blk_cell HBV.out 0).trans rfl
        have v1_ := (blk_cell HBV.out 1).trans rfl
        have v2_ := (blk_cell HBV.out 2).trans rfl
        have v3_ := (blk_cell HBV.out 3).trans rfl
        have v4_ := (blk_cell HBV.out 4).trans rfl
        have v5_ := (blk_cell HBV.out 5).trans rfl
        go_wp2_with fail
        refine (awake_c _).mono ?_
        rintro e w12_ ⟨rfl, hb_⟩
        replace HB := Aside0.mk (bt HB.out hb_)
        replace HBX := Aside0.mk (blk_below HBX.out hb_)
        replace HQS := Aside0.mk (Kd.C_below HQS.out hb_)
        replace HBV := Aside0.mk (blk_below HBV.out hb_)
        replace HYB := Aside0.mk (blk_below HYB.out hb_)
        replace HYI := Aside0.mk (HYI.out.below hb_)
        clear x0_ x1_ x2_ x3_
        clear v0_ v1_ v2_ v3_ v4_ v5_
        clear d0 d1 d2 d3
        clear hb_
        go_wp2_with fail
        go_ret
        exact ⟨ret_bool rfl, HB.out⟩
      · have hov := HOV.out hh
        rw [← HMM.out.1, ← HMM.out.2] at hov
        have hv1 : lo ≤ a3.f5 := hov.1
        have hv2 : a3.f4 ≤ hi := hov.2
        clear hov hh
        have d0 := (blk_cell HBX.out 0).trans rfl
        have d1 := (blk_cell HBX.out 1).trans rfl
        have d2 := (blk_cell HBX.out 2).trans rfl
        have d3 := (blk_cell HBX.out 3).trans rfl
        have x0_ := (blk_cell HYB.out 0).trans rfl
        have x1_ := (blk_cell HYB.out 1).trans rfl
        have x2_ := (blk_cell HYB.out 2).trans rfl
        have x3_ := (blk_cell HYB.out 3).trans rfl
        have v0_ := (blk_cell HBV.out 0).trans rfl
        have v1_ := (blk_cell HBV.out 1).trans rfl
        have v2_ := (blk_cell HBV.out 2).trans rfl
        have v3_ := (blk_cell HBV.out 3).trans rfl
        have v4_ := (blk_cell HBV.out 4).trans rfl
        have v5_ := (blk_cell HBV.out 5).trans rfl
        go_wp2_with fail
        refine (awake_c _).mono ?_
        rintro e w12_ ⟨rfl, hb_⟩
        replace HB := Aside0.mk (bt HB.out hb_)
        replace HBX := Aside0.mk (blk_below HBX.out hb_)
        replace HQS := Aside0.mk (Kd.C_below HQS.out hb_)
        replace HBV := Aside0.mk (blk_below HBV.out hb_)
        replace HYB := Aside0.mk (blk_below HYB.out hb_)
        replace HYI := Aside0.mk (HYI.out.below hb_)
        clear x0_ x1_ x2_ x3_
        clear v0_ v1_ v2_ v3_ v4_ v5_
        clear d0 d1 d2 d3
        clear hb_
        go_wp2_with fail
        go_ret
        exact ⟨ret_bool rfl, HB.out⟩
end Go.Proofs.Ytkbdphjnpieceaa.G
namespace Go.Proofs.Ytkbdphjnpieceaa.hillOver
open Go.ChangeShapes Go.WideShapes Go.ChangeAt Go.RowKit Go.Proofs.Ytkbdphjnpieceaa.G
set_option linter.unusedVariables false
theorem own : ownKnob Try.prog.godebug = none := by kernel_rfl
theorem laidOut : laidOutB Try.prog = true := by kernel_rfl
set_option maxRecDepth 100000 in
theorem lifted (os : Os) (started : os.Started) (H : Type) (enc : TypeId × Value → H) :
    ReturnsInHanded {} Try.checked os 15 .any (Rows.hillOverSpec.pre6 enc Try.prog Try.f15 Rows.hillOverRow.domain false) (Rows.hillOverSpec.post enc Try.prog Try.f15 false true false false) := by
  refine returnsInHanded_of_change_sized (C := Try.checked) own started (by kernel_rfl) Try.func15
    (ChangeSpec.witness6 (enc := enc) (C := Try.checked) false ⟨#[], #[.agg #[.slice none 0 0, .slice none 0 0, .slice none 0 0, .slice none 0 0], .int .u8 0, .int .u8 0, .agg #[.int .i64 0, .int .i64 0, .int .i64 0, .int .i64 0, .int .i64 0, .int .i64 0]], []⟩ 8 (by kernel_rfl) (by kernel_rfl) (by kernel_rfl) (by kernel_rfl)) ?_
  intro W base args ds gs before hval0 hW hcnd hsz0 _
  have hval : ∀ (j : Nat) t v, Try.f15.params[j]? = some t → args[j]? = some v → Value.okWide Try.prog W .any base t v := hval0
  have hW' := hW
  obtain ⟨p, q, hA0, hV, rfl, hfz, hnd⟩ := hW
  have hA : DataW.TrodAll enc Try.prog W 0 (fun _ => true) true Try.f15.params.toList args.toList ds p := hA0
  rw [Try.params15] at hA hval
  obtain ⟨v0, vs0, d0, ds0, p0, q0, hargs, rfl, rfl, h0, r0⟩ := trodAll_cons hA
  obtain ⟨v1, vs1, d1, ds1, p1, q1, rfl, rfl, rfl, h1, r1⟩ := trodAll_cons r0
  obtain ⟨v2, vs2, d2, ds2, p2, q2, rfl, rfl, rfl, h2, r2⟩ := trodAll_cons r1
  obtain ⟨v3, vs3, d3, ds3, p3, q3, rfl, rfl, rfl, h3, r3⟩ := trodAll_cons r2
  obtain ⟨rfl, rfl, rfl⟩ := trodAll_nil r3
  obtain rfl : args = #[v0, v1, v2, v3] := by cases args; simp_all
  obtain ⟨rfl, rfl⟩ := trodVars_none hV
  have k0 := h0
  have lt0 : ∀ x ∈ p0, x.block < W.heap.size := by obtain ⟨m, hm⟩ := k0; exact DataW.trod_lt m _ _ _ hm
  obtain ⟨a0, rfl, w0⟩ := open_land (hval 0 27 v0 rfl rfl) h0
  obtain ⟨a1, rfl, rfl, rfl, w1⟩ := open_int Try.underlying5 (hval 1 5 v1 rfl rfl) h1
  obtain ⟨a2, rfl, rfl, rfl, w2⟩ := open_int Try.underlying5 (hval 2 5 v2 rfl rfl) h2
  have k3 := h3
  have lt3 : ∀ x ∈ p3, x.block < W.heap.size := by obtain ⟨m, hm⟩ := k3; exact DataW.trod_lt m _ _ _ hm
  obtain ⟨a3, rfl⟩ := open_wall (hval 3 55 v3 rfl rfl) h3
  clear hA0 hval0 hsz0
  refine (G.hillOver_c a0 a1 a2 a3 W w0 w1 w2).mono fun e W' ⟨he, bel⟩ => ?_
  subst he
  exact ⟨_, rfl, _, _, _, [], _, [], hW', trodAll_mk1 (shut_bool Try.underlying4 _), (trodAll_cons_mk (Below.trod laidOut (by kernel_rfl) (of_decide_eq_true (by kernel_rfl)) k0 bel lt0) (trodAll_cons_mk (shut_int Try.underlying5 w1) (trodAll_cons_mk (shut_int Try.underlying5 w2) (trodAll_cons_mk (Below.trod laidOut (by kernel_rfl) (of_decide_eq_true (by kernel_rfl)) k3 bel lt3) trodAll_mk0)))), rfl, bel.frame _, fun h => by cases h⟩
theorem over : Rows.hillOverRow.holds Try.pinned (OpenSpec.ofChange Rows.hillOverSpec) :=
  OpenClaim.holds_of_wide 15 Try.f15 rfl rfl rfl rfl rfl rfl rfl ⟨rfl, rfl, rfl, rfl, rfl⟩ rfl rfl rfl rfl rfl (by kernel_rfl) Try.func15 (by kernel_rfl)
    (of_decide_eq_true (by kernel_rfl)) (by unfold Func.isWrapper; first | (rw [if_pos (by decide +kernel)]; kernel_rfl) | (rw [if_neg (by decide +kernel)]; exact ⟨rfl, rfl⟩))
    (fun os started H enc _ => lifted os started H enc)
theorem proved : Rows.HillOverSaid := over
#print axioms proved
end Go.Proofs.Ytkbdphjnpieceaa.hillOver
namespace Go.Proofs.Ytkbdphjnpieceaa
/-- The row, under a short name, for the claim. -/
theorem hillOver_holds : Rows.HillOverSaid := hillOver.proved
end Go.Proofs.Ytkbdphjnpieceaa

