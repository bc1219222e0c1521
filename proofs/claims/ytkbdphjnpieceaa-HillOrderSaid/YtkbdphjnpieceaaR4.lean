/- The reference's Behind, Asked. -/
import Derived.Test.YtkbdphjnpieceaaR3
namespace Go.Proofs.Ytkbdphjnpieceaa.G
open Go.RowKit Go.Proofs.YtkbdphjnpieceaaW.PrintWords Go.Proofs.YtkbdphjnpieceaaW.PrintLast Go.Proofs.YtkbdphjnpieceaaW.PrintMore
open Go.Sort (grow)
set_option linter.unusedVariables false
set_option linter.unusedSimpArgs false

theorem rd_mapS {su : List S50} {i : Int} (h0 : 0 ≤ i) (h1 : i < su.length) : rd_T99 (su.map cSu) i = cSu (rd_T50 su i) := by
  unfold rd_T99 rd_T50
  have : i.toNat < su.length := by omega
  simp [List.getD_eq_getElem?_getD, this]
/-- Is the sun behind? -/
def behB (a b : S85) (s : S99) : Bool := decide (s.f0 * (b.f0 - a.f0) + s.f1 * (b.f1 - a.f1) < 0)
def behind.T1 : Bool × List (List Nat × List Nat) := (true, [([], []), ([0], [0]), ([], []), ([1, 2], [1, 2]), ([3], [3]), ([], []), ([5], [5]), ([], []), ([6, 7], [6, 7]), ([8], [8]), ([], []), ([10], [10]), ([], []), ([11, 12], [11, 12]), ([13], [13]), ([], []), ([], []), ([], []), ([15, 4, 0, 1, 2, 3, 4, 15, 16, 17], [4, 15]), ([16, 9, 18, 0, 1, 2, 3, 4, 5, 6, 7, 8, 9, 15, 16, 17, 18], [9, 16]), ([17, 14, 19, 0, 1, 2, 3, 4, 5, 6, 7, 8, 9, 10, 11, 12, 13, 14, 15, 16, 17, 18, 19], [14, 17])])
def behind.B1 : List Nat := [0, 1, 0, 7, 15, 0, 32, 0, 224, 480, 0, 1024, 0, 7168, 15360, 0, 0, 0, 229407, 492543, 1048575]
theorem behind.tab1 : rtab .any (opsOf Try.f27 1) = behind.T1 := by kernel_rfl
theorem behind.bits1 : waitsOk behind.T1.2 behind.B1 = true := by kernel_rfl
set_option maxHeartbeats 4000000 in
set_option maxRecDepth 100000 in
theorem behind_w (sa sb : S65) (sn : S50) (st : List S65) (su : List S50) (A0 A1 A2 A3 : Option Addr) (n1 n2 c0 c1 c2 c3 : Nat) (f t h : Int) (w : World) (hr0 : Kd.C k65 w A0 st.length st) (hr3 : Kd.C k50 w A3 su.length su)
    (hf0 : 0 ≤ f) (hf : f < st.length) (ht0 : 0 ≤ t) (ht : t < st.length) (hh0 : 0 ≤ h) (hh : h < su.length) (ha : sa = rd_T65 st f) (hb : sb = rd_T65 st t) (hs : sn = rd_T50 su h) (oa : okSt (cSt sa)) (ob : okSt (cSt sb)) (os : okSun (cSu sn)) :
    Calls Try.prog 27 #[.agg #[.slice A0 st.length c0, .slice A1 n1 c1, .slice A2 n2 c2, .slice A3 su.length c3], .int .i64 f, .int .i64 t, .int .i64 h] w fun e w' => e = .returned (.bool (behB (cSt sa) (cSt sb) (cSu sn))) ∧ Below w.heap.size w w' := by
  obtain ⟨ad, e0, x0, x1, x2, x3⟩ := at_T65 hr0 f hf0 hf
  obtain ⟨ad', e0', y0, y1, y2, y3⟩ := at_T65 hr0 t ht0 ht
  obtain ⟨ae, e3, z0, z1, z2⟩ := at_T50 hr3 h hh0 hh
  cases e0
  cases e0'
  cases e3
  rw [← ha] at x0 x1 x2 x3
  rw [← hb] at y0 y1 y2 y3
  rw [← hs] at z0 z1 z2
  clear ha hb hs
  have l0 := hr0.2.1
  have l3 := hr3.2.1
  clear hr0 hr3
  go_enter Try.func27, Try.ntmps27
  go_wp2_with fail
  refine wp_abs (fun W => Below w.heap.size w W ∧ W.cell? ⟨w.heap.size, 0, none⟩ = some (.slice (some ad) st.length c0) ∧ W.cell? ⟨w.heap.size, 3, none⟩ = some (.slice (some ae) su.length c3)) ⟨b1 _ _, cnew rfl rfl, cnew rfl rfl⟩ ?_
  rintro W ⟨hb, D0, D3⟩
  replace x0 := Aside0.mk (cb hb x0)
  replace x1 := Aside0.mk (cb hb x1)
  replace x2 := Aside0.mk (cb hb x2)
  replace x3 := Aside0.mk (cb hb x3)
  replace y0 := Aside0.mk (cb hb y0)
  replace y1 := Aside0.mk (cb hb y1)
  replace y2 := Aside0.mk (cb hb y2)
  replace y3 := Aside0.mk (cb hb y3)
  replace z0 := Aside0.mk (cb hb z0)
  replace z1 := Aside0.mk (cb hb z1)
  replace z2 := Aside0.mk (cb hb z2)
  replace D0 := Aside0.mk D0
  replace D3 := Aside0.mk D3
  have HB := Aside0.mk hb
  clear hb
  refine start_ (n := 21) (S := fun w' => True) (ds := []) #[false, false, false, false, false, false, false, false, false, false, false, false, false, false, false, false, false, false, false, false, false] (by kernel_rfl) rfl rfl trivial (fun hHeld => ?_)
  refine with_tabW behind.tab1 behind.bits1 (fun HT_ HW_ => ?_)
  have HBW := Aside0.mk (below_drew (Below.refl W.heap.size W))
  generalize W.drew = W1 at *
  refine inv_at [0, 1, 2, 3, 4, 5, 6, 7, 8, 9, 10, 11, 12, 13, 14, 15, 16, 17, 18, 19, 20] (fun a0_ b a w' => ∃ (ga : Nat) (gb : Nat) (gs : Nat) (m15_ : Value) (m16_ : Value) (m17_ : Value), a = putSel a0_ b [(0, 12, .pointer (some ⟨w.heap.size, 0, none⟩)), (1, 13, .slice (some ad) st.length c0), (2, 14, .int .i64 f), (3, 15, .pointer (some (ad.add (f.toNat * 4)))), (4, 16, .agg #[.int .i64 sa.f0, .int .i64 sa.f1, .int .i64 sa.f2, .int .i64 sa.f3]), (5, 17, .pointer (some ⟨w.heap.size, 0, none⟩)), (6, 18, .slice (some ad) st.length c0), (7, 19, .int .i64 t), (8, 20, .pointer (some (ad.add (t.toNat * 4)))), (9, 21, .agg #[.int .i64 sb.f0, .int .i64 sb.f1, .int .i64 sb.f2, .int .i64 sb.f3]), (10, 22, .pointer (some ⟨w.heap.size, 3, none⟩)), (11, 23, .slice (some ae) su.length c3), (12, 24, .int .i64 h), (13, 25, .pointer (some (ae.add (h.toNat * 3)))), (14, 26, .agg #[.int .i64 sn.f0, .int .i64 sn.f1, .int .i64 sn.f2]), (15, 9, m15_), (16, 10, m16_), (17, 11, m17_)] ∧ (Below W.heap.size W w') ∧ (b 15 = true → W.heap.size ≤ ga ∧ ∃ u0 u1 u2 u3 : Value, w'.heap[ga]? = some (.cells #[u0, u1, u2, u3] 65 (0, 0))) ∧ (b 16 = true → W.heap.size ≤ gb ∧ ∃ u0 u1 u2 u3 : Value, w'.heap[gb]? = some (.cells #[u0, u1, u2, u3] 65 (0, 0))) ∧ (b 17 = true → W.heap.size ≤ gs ∧ ∃ u0 u1 u2 : Value, w'.heap[gs]? = some (.cells #[u0, u1, u2] 50 (0, 0))) ∧ (b 15 = true → b 16 = true → ga ≠ gb) ∧ (b 15 = true → b 17 = true → ga ≠ gs) ∧ (b 16 = true → b 17 = true → gb ≠ gs) ∧ (b 18 = true → w'.heap[ga]? = some (.cells #[.int .i64 sa.f0, .int .i64 sa.f1, .int .i64 sa.f2, .int .i64 sa.f3] 65 (0, 0))) ∧ (b 19 = true → w'.heap[gb]? = some (.cells #[.int .i64 sb.f0, .int .i64 sb.f1, .int .i64 sb.f2, .int .i64 sb.f3] 65 (0, 0))) ∧ (b 20 = true → w'.heap[gs]? = some (.cells #[.int .i64 sn.f0, .int .i64 sn.f1, .int .i64 sn.f2] 50 (0, 0))) ∧ (b 15 = true → (m15_ : Value) = .pointer (some ⟨ga, 0, none⟩)) ∧ (b 16 = true → (m16_ : Value) = .pointer (some ⟨gb, 0, none⟩)) ∧ (b 17 = true → (m17_ : Value) = .pointer (some ⟨gs, 0, none⟩))) HT_.out HW_.out (by kernel_rfl) (by kernel_rfl) ?_ ?_ ?_
  · exact ⟨0, 0, 0, .bool false, .bool false, .bool false, by simp only [putSel, Bool.false_eq_true, if_false], HBW.out, fun h_ => absurd h_ (by decide), fun h_ => absurd h_ (by decide), fun h_ => absurd h_ (by decide), fun h_ => absurd h_ (by decide), fun h_ => absurd h_ (by decide), fun h_ => absurd h_ (by decide), fun h_ => absurd h_ (by decide), fun h_ => absurd h_ (by decide), fun h_ => absurd h_ (by decide), fun h_ => absurd h_ (by decide), fun h_ => absurd h_ (by decide), fun h_ => absurd h_ (by decide)⟩
  · skip
    clear HBW
    refine steps_cons ?_ ?_
    · rintro b a w' ⟨ga, gb, gs, m15_, m16_, m17_, ha, Q_HBW, Q_Fga, Q_Fgb, Q_Fgs, Q_Ngagb, Q_Ngags, Q_Ngbgs, Q_Sga, Q_Sgb, Q_Sgs, Q_X15_, Q_X16_, Q_X17_⟩ hb_ hon hoff
      refine ⟨_, rfl, fun K hK => ?_⟩
      have e4 : a.tmps[4]? = some (.pointer (some ⟨w.heap.size, 0, none⟩)) := by rw [ha]; exact (putSel_off rfl).trans rfl
      replace ha := Aside0.mk ha
      have HBW := Aside0.mk Q_HBW
      refine value_ (w1 := w') (v := .pointer (some ⟨w.heap.size, 0, none⟩)) (by rfl) rfl ?_ ?_
      · go_simp
        (try simp only [i64_w])
        try rfl
      refine hK.out _ _ ⟨ga, gb, gs, m15_, m16_, m17_, (by rw [ha.out]; exact putSel_upk 0 hb_ rfl rfl rfl), Q_HBW, Q_Fga, Q_Fgb, Q_Fgs, Q_Ngagb, Q_Ngags, Q_Ngbgs, fun h0_ => absurd ((hoff 18 (by kernel_rfl)).symm.trans h0_) (by decide), fun h0_ => absurd ((hoff 19 (by kernel_rfl)).symm.trans h0_) (by decide), fun h0_ => absurd ((hoff 20 (by kernel_rfl)).symm.trans h0_) (by decide), Q_X15_, Q_X16_, Q_X17_⟩
    refine steps_cons ?_ ?_
    · rintro b a w' ⟨ga, gb, gs, m15_, m16_, m17_, ha, Q_HBW, Q_Fga, Q_Fgb, Q_Fgs, Q_Ngagb, Q_Ngags, Q_Ngbgs, Q_Sga, Q_Sgb, Q_Sgs, Q_X15_, Q_X16_, Q_X17_⟩ hb_ hon hoff
      refine ⟨_, rfl, fun K hK => ?_⟩
      have e12 : a.tmps[12]? = some (.pointer (some ⟨w.heap.size, 0, none⟩)) := by rw [ha]; exact putSel_on (e := (0, 12, .pointer (some ⟨w.heap.size, 0, none⟩))) 0 rfl rfl (hon 0 (by kernel_rfl)) rfl
      replace ha := Aside0.mk ha
      have HBW := Aside0.mk Q_HBW
      have k0_ := cb HBW.out D0.out
      refine value_ (w1 := w') (v := .slice (some ad) st.length c0) (by rfl) rfl ?_ ?_
      · go_simp
        (try simp only [i64_w])
        try rfl
      refine hK.out _ _ ⟨ga, gb, gs, m15_, m16_, m17_, (by rw [ha.out]; exact putSel_upk 1 hb_ rfl rfl rfl), Q_HBW, Q_Fga, Q_Fgb, Q_Fgs, Q_Ngagb, Q_Ngags, Q_Ngbgs, fun h0_ => absurd ((hoff 18 (by kernel_rfl)).symm.trans h0_) (by decide), fun h0_ => absurd ((hoff 19 (by kernel_rfl)).symm.trans h0_) (by decide), fun h0_ => absurd ((hoff 20 (by kernel_rfl)).symm.trans h0_) (by decide), Q_X15_, Q_X16_, Q_X17_⟩
    refine steps_cons ?_ ?_
    · rintro b a w' ⟨ga, gb, gs, m15_, m16_, m17_, ha, Q_HBW, Q_Fga, Q_Fgb, Q_Fgs, Q_Ngagb, Q_Ngags, Q_Ngbgs, Q_Sga, Q_Sgb, Q_Sgs, Q_X15_, Q_X16_, Q_X17_⟩ hb_ hon hoff
      refine ⟨_, rfl, fun K hK => ?_⟩
      have e1 : a.tmps[1]? = some (.int .i64 f) := by rw [ha]; exact (putSel_off rfl).trans rfl
      replace ha := Aside0.mk ha
      have HBW := Aside0.mk Q_HBW
      refine value_ (w1 := w') (v := .int .i64 f) (by rfl) rfl ?_ ?_
      · go_simp
        (try simp only [i64_w])
        try rfl
      refine hK.out _ _ ⟨ga, gb, gs, m15_, m16_, m17_, (by rw [ha.out]; exact putSel_upk 2 hb_ rfl rfl rfl), Q_HBW, Q_Fga, Q_Fgb, Q_Fgs, Q_Ngagb, Q_Ngags, Q_Ngbgs, fun h0_ => absurd ((hoff 18 (by kernel_rfl)).symm.trans h0_) (by decide), fun h0_ => absurd ((hoff 19 (by kernel_rfl)).symm.trans h0_) (by decide), fun h0_ => absurd ((hoff 20 (by kernel_rfl)).symm.trans h0_) (by decide), Q_X15_, Q_X16_, Q_X17_⟩
    refine steps_cons ?_ ?_
    · rintro b a w' ⟨ga, gb, gs, m15_, m16_, m17_, ha, Q_HBW, Q_Fga, Q_Fgb, Q_Fgs, Q_Ngagb, Q_Ngags, Q_Ngbgs, Q_Sga, Q_Sgb, Q_Sgs, Q_X15_, Q_X16_, Q_X17_⟩ hb_ hon hoff
      refine ⟨_, rfl, fun K hK => ?_⟩
      have e13 : a.tmps[13]? = some (.slice (some ad) st.length c0) := by rw [ha]; exact putSel_on (e := (1, 13, .slice (some ad) st.length c0)) 1 rfl rfl (hon 1 (by kernel_rfl)) rfl
      have e14 : a.tmps[14]? = some (.int .i64 f) := by rw [ha]; exact putSel_on (e := (2, 14, .int .i64 f)) 2 rfl rfl (hon 2 (by kernel_rfl)) rfl
      replace ha := Aside0.mk ha
      have HBW := Aside0.mk Q_HBW
      refine value_ (w1 := w') (v := .pointer (some (ad.add (f.toNat * 4)))) (by rfl) rfl ?_ ?_
      · go_simp
        (try simp only [i64_w])
        try rfl
      refine hK.out _ _ ⟨ga, gb, gs, m15_, m16_, m17_, (by rw [ha.out]; exact putSel_upk 3 hb_ rfl rfl rfl), Q_HBW, Q_Fga, Q_Fgb, Q_Fgs, Q_Ngagb, Q_Ngags, Q_Ngbgs, fun h0_ => absurd ((hoff 18 (by kernel_rfl)).symm.trans h0_) (by decide), fun h0_ => absurd ((hoff 19 (by kernel_rfl)).symm.trans h0_) (by decide), fun h0_ => absurd ((hoff 20 (by kernel_rfl)).symm.trans h0_) (by decide), Q_X15_, Q_X16_, Q_X17_⟩
    refine steps_cons ?_ ?_
    · rintro b a w' ⟨ga, gb, gs, m15_, m16_, m17_, ha, Q_HBW, Q_Fga, Q_Fgb, Q_Fgs, Q_Ngagb, Q_Ngags, Q_Ngbgs, Q_Sga, Q_Sgb, Q_Sgs, Q_X15_, Q_X16_, Q_X17_⟩ hb_ hon hoff
      refine ⟨_, rfl, fun K hK => ?_⟩
      have e15 : a.tmps[15]? = some (.pointer (some (ad.add (f.toNat * 4)))) := by rw [ha]; exact putSel_on (e := (3, 15, .pointer (some (ad.add (f.toNat * 4))))) 3 rfl rfl (hon 3 (by kernel_rfl)) rfl
      replace ha := Aside0.mk ha
      have HBW := Aside0.mk Q_HBW
      have k0_ := cb HBW.out x0.out
      have k1_ := cb HBW.out x1.out
      have k2_ := cb HBW.out x2.out
      have k3_ := cb HBW.out x3.out
      refine value_ (w1 := w') (v := .agg #[.int .i64 sa.f0, .int .i64 sa.f1, .int .i64 sa.f2, .int .i64 sa.f3]) (by rfl) rfl ?_ ?_
      · go_simp
        (try simp only [i64_w])
        try rfl
      refine hK.out _ _ ⟨ga, gb, gs, m15_, m16_, m17_, (by rw [ha.out]; exact putSel_upk 4 hb_ rfl rfl rfl), Q_HBW, Q_Fga, Q_Fgb, Q_Fgs, Q_Ngagb, Q_Ngags, Q_Ngbgs, fun h0_ => absurd ((hoff 18 (by kernel_rfl)).symm.trans h0_) (by decide), fun h0_ => absurd ((hoff 19 (by kernel_rfl)).symm.trans h0_) (by decide), fun h0_ => absurd ((hoff 20 (by kernel_rfl)).symm.trans h0_) (by decide), Q_X15_, Q_X16_, Q_X17_⟩
    refine steps_cons ?_ ?_
    · rintro b a w' ⟨ga, gb, gs, m15_, m16_, m17_, ha, Q_HBW, Q_Fga, Q_Fgb, Q_Fgs, Q_Ngagb, Q_Ngags, Q_Ngbgs, Q_Sga, Q_Sgb, Q_Sgs, Q_X15_, Q_X16_, Q_X17_⟩ hb_ hon hoff
      refine ⟨_, rfl, fun K hK => ?_⟩
      have e4 : a.tmps[4]? = some (.pointer (some ⟨w.heap.size, 0, none⟩)) := by rw [ha]; exact (putSel_off rfl).trans rfl
      replace ha := Aside0.mk ha
      have HBW := Aside0.mk Q_HBW
      refine value_ (w1 := w') (v := .pointer (some ⟨w.heap.size, 0, none⟩)) (by rfl) rfl ?_ ?_
      · go_simp
        (try simp only [i64_w])
        try rfl
      refine hK.out _ _ ⟨ga, gb, gs, m15_, m16_, m17_, (by rw [ha.out]; exact putSel_upk 5 hb_ rfl rfl rfl), Q_HBW, Q_Fga, Q_Fgb, Q_Fgs, Q_Ngagb, Q_Ngags, Q_Ngbgs, Q_Sga, fun h0_ => absurd ((hoff 19 (by kernel_rfl)).symm.trans h0_) (by decide), fun h0_ => absurd ((hoff 20 (by kernel_rfl)).symm.trans h0_) (by decide), Q_X15_, Q_X16_, Q_X17_⟩
    refine steps_cons ?_ ?_
    · rintro b a w' ⟨ga, gb, gs, m15_, m16_, m17_, ha, Q_HBW, Q_Fga, Q_Fgb, Q_Fgs, Q_Ngagb, Q_Ngags, Q_Ngbgs, Q_Sga, Q_Sgb, Q_Sgs, Q_X15_, Q_X16_, Q_X17_⟩ hb_ hon hoff
      refine ⟨_, rfl, fun K hK => ?_⟩
      have e17 : a.tmps[17]? = some (.pointer (some ⟨w.heap.size, 0, none⟩)) := by rw [ha]; exact putSel_on (e := (5, 17, .pointer (some ⟨w.heap.size, 0, none⟩))) 5 rfl rfl (hon 5 (by kernel_rfl)) rfl
      replace ha := Aside0.mk ha
      have HBW := Aside0.mk Q_HBW
      have k0_ := cb HBW.out D0.out
      refine value_ (w1 := w') (v := .slice (some ad) st.length c0) (by rfl) rfl ?_ ?_
      · go_simp
        (try simp only [i64_w])
        try rfl
      refine hK.out _ _ ⟨ga, gb, gs, m15_, m16_, m17_, (by rw [ha.out]; exact putSel_upk 6 hb_ rfl rfl rfl), Q_HBW, Q_Fga, Q_Fgb, Q_Fgs, Q_Ngagb, Q_Ngags, Q_Ngbgs, Q_Sga, fun h0_ => absurd ((hoff 19 (by kernel_rfl)).symm.trans h0_) (by decide), fun h0_ => absurd ((hoff 20 (by kernel_rfl)).symm.trans h0_) (by decide), Q_X15_, Q_X16_, Q_X17_⟩
    refine steps_cons ?_ ?_
    · rintro b a w' ⟨ga, gb, gs, m15_, m16_, m17_, ha, Q_HBW, Q_Fga, Q_Fgb, Q_Fgs, Q_Ngagb, Q_Ngags, Q_Ngbgs, Q_Sga, Q_Sgb, Q_Sgs, Q_X15_, Q_X16_, Q_X17_⟩ hb_ hon hoff
      refine ⟨_, rfl, fun K hK => ?_⟩
      have e2 : a.tmps[2]? = some (.int .i64 t) := by rw [ha]; exact (putSel_off rfl).trans rfl
      replace ha := Aside0.mk ha
      have HBW := Aside0.mk Q_HBW
      refine value_ (w1 := w') (v := .int .i64 t) (by rfl) rfl ?_ ?_
      · go_simp
        (try simp only [i64_w])
        try rfl
      refine hK.out _ _ ⟨ga, gb, gs, m15_, m16_, m17_, (by rw [ha.out]; exact putSel_upk 7 hb_ rfl rfl rfl), Q_HBW, Q_Fga, Q_Fgb, Q_Fgs, Q_Ngagb, Q_Ngags, Q_Ngbgs, Q_Sga, fun h0_ => absurd ((hoff 19 (by kernel_rfl)).symm.trans h0_) (by decide), fun h0_ => absurd ((hoff 20 (by kernel_rfl)).symm.trans h0_) (by decide), Q_X15_, Q_X16_, Q_X17_⟩
    refine steps_cons ?_ ?_
    · rintro b a w' ⟨ga, gb, gs, m15_, m16_, m17_, ha, Q_HBW, Q_Fga, Q_Fgb, Q_Fgs, Q_Ngagb, Q_Ngags, Q_Ngbgs, Q_Sga, Q_Sgb, Q_Sgs, Q_X15_, Q_X16_, Q_X17_⟩ hb_ hon hoff
      refine ⟨_, rfl, fun K hK => ?_⟩
      have e18 : a.tmps[18]? = some (.slice (some ad) st.length c0) := by rw [ha]; exact putSel_on (e := (6, 18, .slice (some ad) st.length c0)) 6 rfl rfl (hon 6 (by kernel_rfl)) rfl
      have e19 : a.tmps[19]? = some (.int .i64 t) := by rw [ha]; exact putSel_on (e := (7, 19, .int .i64 t)) 7 rfl rfl (hon 7 (by kernel_rfl)) rfl
      replace ha := Aside0.mk ha
      have HBW := Aside0.mk Q_HBW
      refine value_ (w1 := w') (v := .pointer (some (ad.add (t.toNat * 4)))) (by rfl) rfl ?_ ?_
      · go_simp
        (try simp only [i64_w])
        try rfl
      refine hK.out _ _ ⟨ga, gb, gs, m15_, m16_, m17_, (by rw [ha.out]; exact putSel_upk 8 hb_ rfl rfl rfl), Q_HBW, Q_Fga, Q_Fgb, Q_Fgs, Q_Ngagb, Q_Ngags, Q_Ngbgs, Q_Sga, fun h0_ => absurd ((hoff 19 (by kernel_rfl)).symm.trans h0_) (by decide), fun h0_ => absurd ((hoff 20 (by kernel_rfl)).symm.trans h0_) (by decide), Q_X15_, Q_X16_, Q_X17_⟩
    refine steps_cons ?_ ?_
    · rintro b a w' ⟨ga, gb, gs, m15_, m16_, m17_, ha, Q_HBW, Q_Fga, Q_Fgb, Q_Fgs, Q_Ngagb, Q_Ngags, Q_Ngbgs, Q_Sga, Q_Sgb, Q_Sgs, Q_X15_, Q_X16_, Q_X17_⟩ hb_ hon hoff
      refine ⟨_, rfl, fun K hK => ?_⟩
      have e20 : a.tmps[20]? = some (.pointer (some (ad.add (t.toNat * 4)))) := by rw [ha]; exact putSel_on (e := (8, 20, .pointer (some (ad.add (t.toNat * 4))))) 8 rfl rfl (hon 8 (by kernel_rfl)) rfl
      replace ha := Aside0.mk ha
      have HBW := Aside0.mk Q_HBW
      have k0_ := cb HBW.out y0.out
      have k1_ := cb HBW.out y1.out
      have k2_ := cb HBW.out y2.out
      have k3_ := cb HBW.out y3.out
      refine value_ (w1 := w') (v := .agg #[.int .i64 sb.f0, .int .i64 sb.f1, .int .i64 sb.f2, .int .i64 sb.f3]) (by rfl) rfl ?_ ?_
      · go_simp
        (try simp only [i64_w])
        try rfl
      refine hK.out _ _ ⟨ga, gb, gs, m15_, m16_, m17_, (by rw [ha.out]; exact putSel_upk 9 hb_ rfl rfl rfl), Q_HBW, Q_Fga, Q_Fgb, Q_Fgs, Q_Ngagb, Q_Ngags, Q_Ngbgs, Q_Sga, fun h0_ => absurd ((hoff 19 (by kernel_rfl)).symm.trans h0_) (by decide), fun h0_ => absurd ((hoff 20 (by kernel_rfl)).symm.trans h0_) (by decide), Q_X15_, Q_X16_, Q_X17_⟩
    refine steps_cons ?_ ?_
    · rintro b a w' ⟨ga, gb, gs, m15_, m16_, m17_, ha, Q_HBW, Q_Fga, Q_Fgb, Q_Fgs, Q_Ngagb, Q_Ngags, Q_Ngbgs, Q_Sga, Q_Sgb, Q_Sgs, Q_X15_, Q_X16_, Q_X17_⟩ hb_ hon hoff
      refine ⟨_, rfl, fun K hK => ?_⟩
      have e4 : a.tmps[4]? = some (.pointer (some ⟨w.heap.size, 0, none⟩)) := by rw [ha]; exact (putSel_off rfl).trans rfl
      replace ha := Aside0.mk ha
      have HBW := Aside0.mk Q_HBW
      refine value_ (w1 := w') (v := .pointer (some ⟨w.heap.size, 3, none⟩)) (by rfl) rfl ?_ ?_
      · go_simp
        (try simp only [i64_w])
        try rfl
      refine hK.out _ _ ⟨ga, gb, gs, m15_, m16_, m17_, (by rw [ha.out]; exact putSel_upk 10 hb_ rfl rfl rfl), Q_HBW, Q_Fga, Q_Fgb, Q_Fgs, Q_Ngagb, Q_Ngags, Q_Ngbgs, Q_Sga, Q_Sgb, fun h0_ => absurd ((hoff 20 (by kernel_rfl)).symm.trans h0_) (by decide), Q_X15_, Q_X16_, Q_X17_⟩
    refine steps_cons ?_ ?_
    · rintro b a w' ⟨ga, gb, gs, m15_, m16_, m17_, ha, Q_HBW, Q_Fga, Q_Fgb, Q_Fgs, Q_Ngagb, Q_Ngags, Q_Ngbgs, Q_Sga, Q_Sgb, Q_Sgs, Q_X15_, Q_X16_, Q_X17_⟩ hb_ hon hoff
      refine ⟨_, rfl, fun K hK => ?_⟩
      have e22 : a.tmps[22]? = some (.pointer (some ⟨w.heap.size, 3, none⟩)) := by rw [ha]; exact putSel_on (e := (10, 22, .pointer (some ⟨w.heap.size, 3, none⟩))) 10 rfl rfl (hon 10 (by kernel_rfl)) rfl
      replace ha := Aside0.mk ha
      have HBW := Aside0.mk Q_HBW
      have k0_ := cb HBW.out D3.out
      refine value_ (w1 := w') (v := .slice (some ae) su.length c3) (by rfl) rfl ?_ ?_
      · go_simp
        (try simp only [i64_w])
        try rfl
      refine hK.out _ _ ⟨ga, gb, gs, m15_, m16_, m17_, (by rw [ha.out]; exact putSel_upk 11 hb_ rfl rfl rfl), Q_HBW, Q_Fga, Q_Fgb, Q_Fgs, Q_Ngagb, Q_Ngags, Q_Ngbgs, Q_Sga, Q_Sgb, fun h0_ => absurd ((hoff 20 (by kernel_rfl)).symm.trans h0_) (by decide), Q_X15_, Q_X16_, Q_X17_⟩
    refine steps_cons ?_ ?_
    · rintro b a w' ⟨ga, gb, gs, m15_, m16_, m17_, ha, Q_HBW, Q_Fga, Q_Fgb, Q_Fgs, Q_Ngagb, Q_Ngags, Q_Ngbgs, Q_Sga, Q_Sgb, Q_Sgs, Q_X15_, Q_X16_, Q_X17_⟩ hb_ hon hoff
      refine ⟨_, rfl, fun K hK => ?_⟩
      have e3 : a.tmps[3]? = some (.int .i64 h) := by rw [ha]; exact (putSel_off rfl).trans rfl
      replace ha := Aside0.mk ha
      have HBW := Aside0.mk Q_HBW
      refine value_ (w1 := w') (v := .int .i64 h) (by rfl) rfl ?_ ?_
      · go_simp
        (try simp only [i64_w])
        try rfl
      refine hK.out _ _ ⟨ga, gb, gs, m15_, m16_, m17_, (by rw [ha.out]; exact putSel_upk 12 hb_ rfl rfl rfl), Q_HBW, Q_Fga, Q_Fgb, Q_Fgs, Q_Ngagb, Q_Ngags, Q_Ngbgs, Q_Sga, Q_Sgb, fun h0_ => absurd ((hoff 20 (by kernel_rfl)).symm.trans h0_) (by decide), Q_X15_, Q_X16_, Q_X17_⟩
    refine steps_cons ?_ ?_
    · rintro b a w' ⟨ga, gb, gs, m15_, m16_, m17_, ha, Q_HBW, Q_Fga, Q_Fgb, Q_Fgs, Q_Ngagb, Q_Ngags, Q_Ngbgs, Q_Sga, Q_Sgb, Q_Sgs, Q_X15_, Q_X16_, Q_X17_⟩ hb_ hon hoff
      refine ⟨_, rfl, fun K hK => ?_⟩
      have e23 : a.tmps[23]? = some (.slice (some ae) su.length c3) := by rw [ha]; exact putSel_on (e := (11, 23, .slice (some ae) su.length c3)) 11 rfl rfl (hon 11 (by kernel_rfl)) rfl
      have e24 : a.tmps[24]? = some (.int .i64 h) := by rw [ha]; exact putSel_on (e := (12, 24, .int .i64 h)) 12 rfl rfl (hon 12 (by kernel_rfl)) rfl
      replace ha := Aside0.mk ha
      have HBW := Aside0.mk Q_HBW
      refine value_ (w1 := w') (v := .pointer (some (ae.add (h.toNat * 3)))) (by rfl) rfl ?_ ?_
      · go_simp
        (try simp only [i64_w])
        try rfl
      refine hK.out _ _ ⟨ga, gb, gs, m15_, m16_, m17_, (by rw [ha.out]; exact putSel_upk 13 hb_ rfl rfl rfl), Q_HBW, Q_Fga, Q_Fgb, Q_Fgs, Q_Ngagb, Q_Ngags, Q_Ngbgs, Q_Sga, Q_Sgb, fun h0_ => absurd ((hoff 20 (by kernel_rfl)).symm.trans h0_) (by decide), Q_X15_, Q_X16_, Q_X17_⟩
    refine steps_cons ?_ ?_
    · rintro b a w' ⟨ga, gb, gs, m15_, m16_, m17_, ha, Q_HBW, Q_Fga, Q_Fgb, Q_Fgs, Q_Ngagb, Q_Ngags, Q_Ngbgs, Q_Sga, Q_Sgb, Q_Sgs, Q_X15_, Q_X16_, Q_X17_⟩ hb_ hon hoff
      refine ⟨_, rfl, fun K hK => ?_⟩
      have e25 : a.tmps[25]? = some (.pointer (some (ae.add (h.toNat * 3)))) := by rw [ha]; exact putSel_on (e := (13, 25, .pointer (some (ae.add (h.toNat * 3))))) 13 rfl rfl (hon 13 (by kernel_rfl)) rfl
      replace ha := Aside0.mk ha
      have HBW := Aside0.mk Q_HBW
      have k0_ := cb HBW.out z0.out
      have k1_ := cb HBW.out z1.out
      have k2_ := cb HBW.out z2.out
      refine value_ (w1 := w') (v := .agg #[.int .i64 sn.f0, .int .i64 sn.f1, .int .i64 sn.f2]) (by rfl) rfl ?_ ?_
      · go_simp
        (try simp only [i64_w])
        try rfl
      refine hK.out _ _ ⟨ga, gb, gs, m15_, m16_, m17_, (by rw [ha.out]; exact putSel_upk 14 hb_ rfl rfl rfl), Q_HBW, Q_Fga, Q_Fgb, Q_Fgs, Q_Ngagb, Q_Ngags, Q_Ngbgs, Q_Sga, Q_Sgb, fun h0_ => absurd ((hoff 20 (by kernel_rfl)).symm.trans h0_) (by decide), Q_X15_, Q_X16_, Q_X17_⟩
    refine steps_cons ?_ ?_
    · rintro b a w' ⟨ga, gb, gs, m15_, m16_, m17_, ha, Q_HBW, Q_Fga, Q_Fgb, Q_Fgs, Q_Ngagb, Q_Ngags, Q_Ngbgs, Q_Sga, Q_Sgb, Q_Sgs, Q_X15_, Q_X16_, Q_X17_⟩ hb_ hon hoff
      refine ⟨_, rfl, fun K hK => ?_⟩
      replace ha := Aside0.mk ha
      have HBW := Aside0.mk Q_HBW
      refine value_ (w1 := w'.alloc (.cells #[.int .i64 0, .int .i64 0, .int .i64 0, .int .i64 0] 65)) (v := .pointer (some ⟨w'.heap.size, 0, none⟩)) (by rfl) rfl (by go_simp) ?_
      have hbb := b1 w' (.cells #[.int .i64 0, .int .i64 0, .int .i64 0, .int .i64 0] 65)
      have z_Ngagb := fun (h0_ : up b 15 15 = true) (h1_ : up b 15 16 = true) => (show w'.heap.size ≠ gb from fun h => by obtain ⟨_, _, _, _, _, h2⟩ := Q_Fgb h1_; exact absurd (blk_lt h2) (h ▸ Nat.lt_irrefl _))
      have z_Ngags := fun (h0_ : up b 15 15 = true) (h1_ : up b 15 17 = true) => (show w'.heap.size ≠ gs from fun h => by obtain ⟨_, _, _, _, h2⟩ := Q_Fgs h1_; exact absurd (blk_lt h2) (h ▸ Nat.lt_irrefl _))
      refine hK.out _ _ ⟨w'.heap.size, gb, gs, (.pointer (some ⟨w'.heap.size, 0, none⟩)), m16_, m17_, (by rw [ha.out]; exact putSel_upk 15 hb_ rfl rfl rfl), bt HBW.out hbb, fun _ => ⟨HBW.out.size, _, _, _, _, blk_new _ _⟩, fun h0_ => ⟨(Q_Fgb h0_).1, (fun ⟨u0, u1, u2, u3, h⟩ => ⟨u0, u1, u2, u3, blk_below h hbb⟩) (Q_Fgb h0_).2⟩, fun h0_ => ⟨(Q_Fgs h0_).1, (fun ⟨u0, u1, u2, h⟩ => ⟨u0, u1, u2, blk_below h hbb⟩) (Q_Fgs h0_).2⟩, z_Ngagb, z_Ngags, fun h0_ h1_ => (Q_Ngbgs h0_ h1_), fun h0_ => absurd ((hoff 18 (by kernel_rfl)).symm.trans h0_) (by decide), fun h0_ => absurd ((hoff 19 (by kernel_rfl)).symm.trans h0_) (by decide), fun h0_ => absurd ((hoff 20 (by kernel_rfl)).symm.trans h0_) (by decide), fun _ => rfl, Q_X16_, Q_X17_⟩
    refine steps_cons ?_ ?_
    · rintro b a w' ⟨ga, gb, gs, m15_, m16_, m17_, ha, Q_HBW, Q_Fga, Q_Fgb, Q_Fgs, Q_Ngagb, Q_Ngags, Q_Ngbgs, Q_Sga, Q_Sgb, Q_Sgs, Q_X15_, Q_X16_, Q_X17_⟩ hb_ hon hoff
      refine ⟨_, rfl, fun K hK => ?_⟩
      replace ha := Aside0.mk ha
      have HBW := Aside0.mk Q_HBW
      refine value_ (w1 := w'.alloc (.cells #[.int .i64 0, .int .i64 0, .int .i64 0, .int .i64 0] 65)) (v := .pointer (some ⟨w'.heap.size, 0, none⟩)) (by rfl) rfl (by go_simp) ?_
      have hbb := b1 w' (.cells #[.int .i64 0, .int .i64 0, .int .i64 0, .int .i64 0] 65)
      have z_Ngagb := fun (h0_ : up b 16 15 = true) (h1_ : up b 16 16 = true) => (show ga ≠ w'.heap.size from fun h => by obtain ⟨_, _, _, _, _, h2⟩ := Q_Fga h0_; exact absurd (blk_lt h2) (h ▸ Nat.lt_irrefl _))
      have z_Ngbgs := fun (h0_ : up b 16 16 = true) (h1_ : up b 16 17 = true) => (show w'.heap.size ≠ gs from fun h => by obtain ⟨_, _, _, _, h2⟩ := Q_Fgs h1_; exact absurd (blk_lt h2) (h ▸ Nat.lt_irrefl _))
      refine hK.out _ _ ⟨ga, w'.heap.size, gs, m15_, (.pointer (some ⟨w'.heap.size, 0, none⟩)), m17_, (by rw [ha.out]; exact putSel_upk 16 hb_ rfl rfl rfl), bt HBW.out hbb, fun h0_ => ⟨(Q_Fga h0_).1, (fun ⟨u0, u1, u2, u3, h⟩ => ⟨u0, u1, u2, u3, blk_below h hbb⟩) (Q_Fga h0_).2⟩, fun _ => ⟨HBW.out.size, _, _, _, _, blk_new _ _⟩, fun h0_ => ⟨(Q_Fgs h0_).1, (fun ⟨u0, u1, u2, h⟩ => ⟨u0, u1, u2, blk_below h hbb⟩) (Q_Fgs h0_).2⟩, z_Ngagb, fun h0_ h1_ => (Q_Ngags h0_ h1_), z_Ngbgs, fun h0_ => absurd ((hoff 18 (by kernel_rfl)).symm.trans h0_) (by decide), fun h0_ => absurd ((hoff 19 (by kernel_rfl)).symm.trans h0_) (by decide), fun h0_ => absurd ((hoff 20 (by kernel_rfl)).symm.trans h0_) (by decide), Q_X15_, fun _ => rfl, Q_X17_⟩
    refine steps_cons ?_ ?_
    · rintro b a w' ⟨ga, gb, gs, m15_, m16_, m17_, ha, Q_HBW, Q_Fga, Q_Fgb, Q_Fgs, Q_Ngagb, Q_Ngags, Q_Ngbgs, Q_Sga, Q_Sgb, Q_Sgs, Q_X15_, Q_X16_, Q_X17_⟩ hb_ hon hoff
      refine ⟨_, rfl, fun K hK => ?_⟩
      replace ha := Aside0.mk ha
      have HBW := Aside0.mk Q_HBW
      refine value_ (w1 := w'.alloc (.cells #[.int .i64 0, .int .i64 0, .int .i64 0] 50)) (v := .pointer (some ⟨w'.heap.size, 0, none⟩)) (by rfl) rfl (by go_simp) ?_
      have hbb := b1 w' (.cells #[.int .i64 0, .int .i64 0, .int .i64 0] 50)
      have z_Ngags := fun (h0_ : up b 17 15 = true) (h1_ : up b 17 17 = true) => (show ga ≠ w'.heap.size from fun h => by obtain ⟨_, _, _, _, _, h2⟩ := Q_Fga h0_; exact absurd (blk_lt h2) (h ▸ Nat.lt_irrefl _))
      have z_Ngbgs := fun (h0_ : up b 17 16 = true) (h1_ : up b 17 17 = true) => (show gb ≠ w'.heap.size from fun h => by obtain ⟨_, _, _, _, _, h2⟩ := Q_Fgb h0_; exact absurd (blk_lt h2) (h ▸ Nat.lt_irrefl _))
      refine hK.out _ _ ⟨ga, gb, w'.heap.size, m15_, m16_, (.pointer (some ⟨w'.heap.size, 0, none⟩)), (by rw [ha.out]; exact putSel_upk 17 hb_ rfl rfl rfl), bt HBW.out hbb, fun h0_ => ⟨(Q_Fga h0_).1, (fun ⟨u0, u1, u2, u3, h⟩ => ⟨u0, u1, u2, u3, blk_below h hbb⟩) (Q_Fga h0_).2⟩, fun h0_ => ⟨(Q_Fgb h0_).1, (fun ⟨u0, u1, u2, u3, h⟩ => ⟨u0, u1, u2, u3, blk_below h hbb⟩) (Q_Fgb h0_).2⟩, fun _ => ⟨HBW.out.size, _, _, _, blk_new _ _⟩, fun h0_ h1_ => (Q_Ngagb h0_ h1_), z_Ngags, z_Ngbgs, fun h0_ => absurd ((hoff 18 (by kernel_rfl)).symm.trans h0_) (by decide), fun h0_ => absurd ((hoff 19 (by kernel_rfl)).symm.trans h0_) (by decide), fun h0_ => absurd ((hoff 20 (by kernel_rfl)).symm.trans h0_) (by decide), Q_X15_, Q_X16_, fun _ => rfl⟩
    refine steps_cons ?_ ?_
    · rintro b a w' ⟨ga, gb, gs, m15_, m16_, m17_, ha, Q_HBW, Q_Fga, Q_Fgb, Q_Fgs, Q_Ngagb, Q_Ngags, Q_Ngbgs, Q_Sga, Q_Sgb, Q_Sgs, Q_X15_, Q_X16_, Q_X17_⟩ hb_ hon hoff
      refine ⟨_, rfl, fun K hK => ?_⟩
      have e9 : a.tmps[9]? = some (m15_) := by rw [ha]; exact putSel_on (e := (15, 9, m15_)) 15 rfl rfl (hon 15 (by kernel_rfl)) rfl
      rw [Q_X15_ (hon 15 (by kernel_rfl))] at e9
      have e16 : a.tmps[16]? = some (.agg #[.int .i64 sa.f0, .int .i64 sa.f1, .int .i64 sa.f2, .int .i64 sa.f3]) := by rw [ha]; exact putSel_on (e := (4, 16, .agg #[.int .i64 sa.f0, .int .i64 sa.f1, .int .i64 sa.f2, .int .i64 sa.f3])) 4 rfl rfl (hon 4 (by kernel_rfl)) rfl
      replace ha := Aside0.mk ha
      have HBW := Aside0.mk Q_HBW
      have Fga := Aside0.mk (Q_Fga (hon 15 (by kernel_rfl)))
      have Fgb := Aside0.mk (Q_Fgb (hon 16 (by kernel_rfl)))
      have Fgs := Aside0.mk (Q_Fgs (hon 17 (by kernel_rfl)))
      have Ngagb := Aside0.mk (Q_Ngagb (hon 15 (by kernel_rfl)) (hon 16 (by kernel_rfl)))
      have Ngags := Aside0.mk (Q_Ngags (hon 15 (by kernel_rfl)) (hon 17 (by kernel_rfl)))
      have Ngbgs := Aside0.mk (Q_Ngbgs (hon 16 (by kernel_rfl)) (hon 17 (by kernel_rfl)))
      obtain ⟨hgs_, u0, u1, u2, u3, gk⟩ := Fga.out
      have c0 := (blk_cell (gk) 0).trans rfl
      have f0 := blk_frozen (gk) 0
      have c1 := (blk_cell (blk_set (gk) 0 (.int .i64 sa.f0)) 1).trans rfl
      have f1 := blk_frozen (blk_set (gk) 0 (.int .i64 sa.f0)) 1
      have c2 := (blk_cell (blk_set (blk_set (gk) 0 (.int .i64 sa.f0)) 1 (.int .i64 sa.f1)) 2).trans rfl
      have f2 := blk_frozen (blk_set (blk_set (gk) 0 (.int .i64 sa.f0)) 1 (.int .i64 sa.f1)) 2
      have c3 := (blk_cell (blk_set (blk_set (blk_set (gk) 0 (.int .i64 sa.f0)) 1 (.int .i64 sa.f1)) 2 (.int .i64 sa.f2)) 3).trans rfl
      have f3 := blk_frozen (blk_set (blk_set (blk_set (gk) 0 (.int .i64 sa.f0)) 1 (.int .i64 sa.f1)) 2 (.int .i64 sa.f2)) 3
      have nend := blk_set (blk_set (blk_set (blk_set (gk) 0 (.int .i64 sa.f0)) 1 (.int .i64 sa.f1)) 2 (.int .i64 sa.f2)) 3 (.int .i64 sa.f3)
      refine skip_ (w1 := ((((w'.setCell ⟨ga, 0, none⟩ (.int .i64 sa.f0)).setCell ⟨ga, 1, none⟩ (.int .i64 sa.f1)).setCell ⟨ga, 2, none⟩ (.int .i64 sa.f2)).setCell ⟨ga, 3, none⟩ (.int .i64 sa.f3))) (by rfl) rfl (by go_simp) ?_
      refine hK.out _ _ ⟨ga, gb, gs, m15_, m16_, m17_, (by rw [ha.out]; exact putSel_none (v := undef) rfl), below_set (below_set (below_set (below_set (HBW.out) hgs_) hgs_) hgs_) hgs_, fun _ => ⟨hgs_, _, _, _, _, nend⟩, fun _ => ⟨Fgb.out.1, (fun ⟨u0, u1, u2, u3, h⟩ => ⟨u0, u1, u2, u3, blk_far (blk_far (blk_far (blk_far (h) Ngagb.out.symm _) Ngagb.out.symm _) Ngagb.out.symm _) Ngagb.out.symm _⟩) Fgb.out.2⟩, fun _ => ⟨Fgs.out.1, (fun ⟨u0, u1, u2, h⟩ => ⟨u0, u1, u2, blk_far (blk_far (blk_far (blk_far (h) Ngags.out.symm _) Ngags.out.symm _) Ngags.out.symm _) Ngags.out.symm _⟩) Fgs.out.2⟩, fun _ _ => Ngagb.out, fun _ _ => Ngags.out, fun _ _ => Ngbgs.out, fun _ => nend, fun h0_ => absurd ((hoff 19 (by kernel_rfl)).symm.trans h0_) (by decide), fun h0_ => absurd ((hoff 20 (by kernel_rfl)).symm.trans h0_) (by decide), Q_X15_, Q_X16_, Q_X17_⟩
    refine steps_cons ?_ ?_
    · rintro b a w' ⟨ga, gb, gs, m15_, m16_, m17_, ha, Q_HBW, Q_Fga, Q_Fgb, Q_Fgs, Q_Ngagb, Q_Ngags, Q_Ngbgs, Q_Sga, Q_Sgb, Q_Sgs, Q_X15_, Q_X16_, Q_X17_⟩ hb_ hon hoff
      refine ⟨_, rfl, fun K hK => ?_⟩
      have e10 : a.tmps[10]? = some (m16_) := by rw [ha]; exact putSel_on (e := (16, 10, m16_)) 16 rfl rfl (hon 16 (by kernel_rfl)) rfl
      rw [Q_X16_ (hon 16 (by kernel_rfl))] at e10
      have e21 : a.tmps[21]? = some (.agg #[.int .i64 sb.f0, .int .i64 sb.f1, .int .i64 sb.f2, .int .i64 sb.f3]) := by rw [ha]; exact putSel_on (e := (9, 21, .agg #[.int .i64 sb.f0, .int .i64 sb.f1, .int .i64 sb.f2, .int .i64 sb.f3])) 9 rfl rfl (hon 9 (by kernel_rfl)) rfl
      replace ha := Aside0.mk ha
      have HBW := Aside0.mk Q_HBW
      have Fga := Aside0.mk (Q_Fga (hon 15 (by kernel_rfl)))
      have Fgb := Aside0.mk (Q_Fgb (hon 16 (by kernel_rfl)))
      have Fgs := Aside0.mk (Q_Fgs (hon 17 (by kernel_rfl)))
      have Ngagb := Aside0.mk (Q_Ngagb (hon 15 (by kernel_rfl)) (hon 16 (by kernel_rfl)))
      have Ngags := Aside0.mk (Q_Ngags (hon 15 (by kernel_rfl)) (hon 17 (by kernel_rfl)))
      have Ngbgs := Aside0.mk (Q_Ngbgs (hon 16 (by kernel_rfl)) (hon 17 (by kernel_rfl)))
      have Sga := Aside0.mk (Q_Sga (hon 18 (by kernel_rfl)))
      obtain ⟨hgs_, u0, u1, u2, u3, gk⟩ := Fgb.out
      have c0 := (blk_cell (gk) 0).trans rfl
      have f0 := blk_frozen (gk) 0
      have c1 := (blk_cell (blk_set (gk) 0 (.int .i64 sb.f0)) 1).trans rfl
      have f1 := blk_frozen (blk_set (gk) 0 (.int .i64 sb.f0)) 1
      have c2 := (blk_cell (blk_set (blk_set (gk) 0 (.int .i64 sb.f0)) 1 (.int .i64 sb.f1)) 2).trans rfl
      have f2 := blk_frozen (blk_set (blk_set (gk) 0 (.int .i64 sb.f0)) 1 (.int .i64 sb.f1)) 2
      have c3 := (blk_cell (blk_set (blk_set (blk_set (gk) 0 (.int .i64 sb.f0)) 1 (.int .i64 sb.f1)) 2 (.int .i64 sb.f2)) 3).trans rfl
      have f3 := blk_frozen (blk_set (blk_set (blk_set (gk) 0 (.int .i64 sb.f0)) 1 (.int .i64 sb.f1)) 2 (.int .i64 sb.f2)) 3
      have nend := blk_set (blk_set (blk_set (blk_set (gk) 0 (.int .i64 sb.f0)) 1 (.int .i64 sb.f1)) 2 (.int .i64 sb.f2)) 3 (.int .i64 sb.f3)
      refine skip_ (w1 := ((((w'.setCell ⟨gb, 0, none⟩ (.int .i64 sb.f0)).setCell ⟨gb, 1, none⟩ (.int .i64 sb.f1)).setCell ⟨gb, 2, none⟩ (.int .i64 sb.f2)).setCell ⟨gb, 3, none⟩ (.int .i64 sb.f3))) (by rfl) rfl (by go_simp) ?_
      refine hK.out _ _ ⟨ga, gb, gs, m15_, m16_, m17_, (by rw [ha.out]; exact putSel_none (v := undef) rfl), below_set (below_set (below_set (below_set (HBW.out) hgs_) hgs_) hgs_) hgs_, fun _ => ⟨Fga.out.1, (fun ⟨u0, u1, u2, u3, h⟩ => ⟨u0, u1, u2, u3, blk_far (blk_far (blk_far (blk_far (h) Ngagb.out _) Ngagb.out _) Ngagb.out _) Ngagb.out _⟩) Fga.out.2⟩, fun _ => ⟨hgs_, _, _, _, _, nend⟩, fun _ => ⟨Fgs.out.1, (fun ⟨u0, u1, u2, h⟩ => ⟨u0, u1, u2, blk_far (blk_far (blk_far (blk_far (h) Ngbgs.out.symm _) Ngbgs.out.symm _) Ngbgs.out.symm _) Ngbgs.out.symm _⟩) Fgs.out.2⟩, fun _ _ => Ngagb.out, fun _ _ => Ngags.out, fun _ _ => Ngbgs.out, fun _ => blk_far (blk_far (blk_far (blk_far (Sga.out) Ngagb.out _) Ngagb.out _) Ngagb.out _) Ngagb.out _, fun _ => nend, fun h0_ => absurd ((hoff 20 (by kernel_rfl)).symm.trans h0_) (by decide), Q_X15_, Q_X16_, Q_X17_⟩
    refine steps_cons ?_ ?_
    · rintro b a w' ⟨ga, gb, gs, m15_, m16_, m17_, ha, Q_HBW, Q_Fga, Q_Fgb, Q_Fgs, Q_Ngagb, Q_Ngags, Q_Ngbgs, Q_Sga, Q_Sgb, Q_Sgs, Q_X15_, Q_X16_, Q_X17_⟩ hb_ hon hoff
      refine ⟨_, rfl, fun K hK => ?_⟩
      have e11 : a.tmps[11]? = some (m17_) := by rw [ha]; exact putSel_on (e := (17, 11, m17_)) 17 rfl rfl (hon 17 (by kernel_rfl)) rfl
      rw [Q_X17_ (hon 17 (by kernel_rfl))] at e11
      have e26 : a.tmps[26]? = some (.agg #[.int .i64 sn.f0, .int .i64 sn.f1, .int .i64 sn.f2]) := by rw [ha]; exact putSel_on (e := (14, 26, .agg #[.int .i64 sn.f0, .int .i64 sn.f1, .int .i64 sn.f2])) 14 rfl rfl (hon 14 (by kernel_rfl)) rfl
      replace ha := Aside0.mk ha
      have HBW := Aside0.mk Q_HBW
      have Fga := Aside0.mk (Q_Fga (hon 15 (by kernel_rfl)))
      have Fgb := Aside0.mk (Q_Fgb (hon 16 (by kernel_rfl)))
      have Fgs := Aside0.mk (Q_Fgs (hon 17 (by kernel_rfl)))
      have Ngagb := Aside0.mk (Q_Ngagb (hon 15 (by kernel_rfl)) (hon 16 (by kernel_rfl)))
      have Ngags := Aside0.mk (Q_Ngags (hon 15 (by kernel_rfl)) (hon 17 (by kernel_rfl)))
      have Ngbgs := Aside0.mk (Q_Ngbgs (hon 16 (by kernel_rfl)) (hon 17 (by kernel_rfl)))
      have Sga := Aside0.mk (Q_Sga (hon 18 (by kernel_rfl)))
      have Sgb := Aside0.mk (Q_Sgb (hon 19 (by kernel_rfl)))
      obtain ⟨hgs_, u0, u1, u2, gk⟩ := Fgs.out
      have c0 := (blk_cell (gk) 0).trans rfl
      have f0 := blk_frozen (gk) 0
      have c1 := (blk_cell (blk_set (gk) 0 (.int .i64 sn.f0)) 1).trans rfl
      have f1 := blk_frozen (blk_set (gk) 0 (.int .i64 sn.f0)) 1
      have c2 := (blk_cell (blk_set (blk_set (gk) 0 (.int .i64 sn.f0)) 1 (.int .i64 sn.f1)) 2).trans rfl
      have f2 := blk_frozen (blk_set (blk_set (gk) 0 (.int .i64 sn.f0)) 1 (.int .i64 sn.f1)) 2
      have nend := blk_set (blk_set (blk_set (gk) 0 (.int .i64 sn.f0)) 1 (.int .i64 sn.f1)) 2 (.int .i64 sn.f2)
      refine skip_ (w1 := (((w'.setCell ⟨gs, 0, none⟩ (.int .i64 sn.f0)).setCell ⟨gs, 1, none⟩ (.int .i64 sn.f1)).setCell ⟨gs, 2, none⟩ (.int .i64 sn.f2))) (by rfl) rfl (by go_simp) ?_
      refine hK.out _ _ ⟨ga, gb, gs, m15_, m16_, m17_, (by rw [ha.out]; exact putSel_none (v := undef) rfl), below_set (below_set (below_set (HBW.out) hgs_) hgs_) hgs_, fun _ => ⟨Fga.out.1, (fun ⟨u0, u1, u2, u3, h⟩ => ⟨u0, u1, u2, u3, blk_far (blk_far (blk_far (h) Ngags.out _) Ngags.out _) Ngags.out _⟩) Fga.out.2⟩, fun _ => ⟨Fgb.out.1, (fun ⟨u0, u1, u2, u3, h⟩ => ⟨u0, u1, u2, u3, blk_far (blk_far (blk_far (h) Ngbgs.out _) Ngbgs.out _) Ngbgs.out _⟩) Fgb.out.2⟩, fun _ => ⟨hgs_, _, _, _, nend⟩, fun _ _ => Ngagb.out, fun _ _ => Ngags.out, fun _ _ => Ngbgs.out, fun _ => blk_far (blk_far (blk_far (Sga.out) Ngags.out _) Ngags.out _) Ngags.out _, fun _ => blk_far (blk_far (blk_far (Sgb.out) Ngbgs.out _) Ngbgs.out _) Ngbgs.out _, fun _ => nend, Q_X15_, Q_X16_, Q_X17_⟩
    exact steps_nil
  · rintro b a w' hall ⟨ga, gb, gs, m15_, m16_, m17_, ha, Q_HBW, Q_Fga, Q_Fgb, Q_Fgs, Q_Ngagb, Q_Ngags, Q_Ngbgs, Q_Sga, Q_Sgb, Q_Sgs, Q_X15_, Q_X16_, Q_X17_⟩
    clear HBW
    have hb0_ := hall 0 (by kernel_rfl)
    have hb1_ := hall 1 (by kernel_rfl)
    have hb2_ := hall 2 (by kernel_rfl)
    have hb3_ := hall 3 (by kernel_rfl)
    have hb4_ := hall 4 (by kernel_rfl)
    have hb5_ := hall 5 (by kernel_rfl)
    have hb6_ := hall 6 (by kernel_rfl)
    have hb7_ := hall 7 (by kernel_rfl)
    have hb8_ := hall 8 (by kernel_rfl)
    have hb9_ := hall 9 (by kernel_rfl)
    have hb10_ := hall 10 (by kernel_rfl)
    have hb11_ := hall 11 (by kernel_rfl)
    have hb12_ := hall 12 (by kernel_rfl)
    have hb13_ := hall 13 (by kernel_rfl)
    have hb14_ := hall 14 (by kernel_rfl)
    have hb15_ := hall 15 (by kernel_rfl)
    have hb16_ := hall 16 (by kernel_rfl)
    have hb17_ := hall 17 (by kernel_rfl)
    have hb18_ := hall 18 (by kernel_rfl)
    have hb19_ := hall 19 (by kernel_rfl)
    have hb20_ := hall 20 (by kernel_rfl)
    subst ha
    obtain rfl := Q_X15_ hb15_
    obtain rfl := Q_X16_ hb16_
    obtain rfl := Q_X17_ hb17_
    simp only [putSel, hb0_, hb1_, hb2_, hb3_, hb4_, hb5_, hb6_, hb7_, hb8_, hb9_, hb10_, hb11_, hb12_, hb13_, hb14_, hb15_, hb16_, hb17_, hb18_, hb19_, hb20_, if_true, Act.put, List.setIfInBounds_toArray, List.set_cons_zero, List.set_cons_succ]
    have HBW := Aside0.mk Q_HBW
    clear Q_HBW
    have Fga := Aside0.mk (Q_Fga hb15_)
    clear Q_Fga
    have Fgb := Aside0.mk (Q_Fgb hb16_)
    clear Q_Fgb
    have Fgs := Aside0.mk (Q_Fgs hb17_)
    clear Q_Fgs
    have Ngagb := Aside0.mk (Q_Ngagb hb15_ hb16_)
    clear Q_Ngagb
    have Ngags := Aside0.mk (Q_Ngags hb15_ hb17_)
    clear Q_Ngags
    have Ngbgs := Aside0.mk (Q_Ngbgs hb16_ hb17_)
    clear Q_Ngbgs
    have Sga := Aside0.mk (Q_Sga hb18_)
    clear Q_Sga
    have Sgb := Aside0.mk (Q_Sgb hb19_)
    clear Q_Sgb
    have Sgs := Aside0.mk (Q_Sgs hb20_)
    clear Q_Sgs
    clear hall hb0_ hb1_ hb2_ hb3_ hb4_ hb5_ hb6_ hb7_ hb8_ hb9_ hb10_ hb11_ hb12_ hb13_ hb14_ hb15_ hb16_ hb17_ hb18_ hb19_ hb20_
    obtain ⟨a0, a1, _⟩ := oa
    obtain ⟨b0, b1', _⟩ := ob
    obtain ⟨t0, t1⟩ := os
    simp only [cSt, cSu] at a0 a1 b0 b1' t0 t1
    have p1 := mul_bd (a := sn.f0) (b := sb.f0 - sa.f0) 100 100 (by omega) (by omega) (by omega) (by omega)
    have p2 := mul_bd (a := sn.f1) (b := sb.f1 - sa.f1) 100 100 (by omega) (by omega) (by omega) (by omega)
    have w1 := wr64 (n := sb.f0 - sa.f0) (by omega) (by omega)
    have w2 := wr64 (n := sb.f1 - sa.f1) (by omega) (by omega)
    have w3 := wr64 (n := sn.f0 * (sb.f0 - sa.f0)) (by omega) (by omega)
    have w4 := wr64 (n := sn.f1 * (sb.f1 - sa.f1)) (by omega) (by omega)
    have w5 := wr64 (n := sn.f0 * (sb.f0 - sa.f0) + sn.f1 * (sb.f1 - sa.f1)) (by omega) (by omega)
    clear p1 p2 a0 a1 b0 b1' t0 t1
    have g0 := (blk_cell Sga.out 0).trans rfl
    have g1 := (blk_cell Sga.out 1).trans rfl
    have g2 := (blk_cell Sgb.out 0).trans rfl
    have g3 := (blk_cell Sgb.out 1).trans rfl
    have g4 := (blk_cell Sgs.out 0).trans rfl
    have g5 := (blk_cell Sgs.out 1).trans rfl
    go_wp2_with fail
    go_ret
    exact ⟨ret_bool rfl, bt HB.out HBW.out⟩

theorem rasked_c (R : Rv) (f t k h : Int) (w : World) (l0 : R.st.length ≤ 9223372036854775807) (l2 : R.ca.length ≤ 9223372036854775807) (l3 : R.su.length ≤ 9223372036854775807) :
    Calls Try.prog 52 #[.agg R.cells, .int .i64 f, .int .i64 t, .int .i64 k, .int .i64 h] w fun e w' => e = .returned (.int .i64 (R.lv.ask f t k h)) ∧ Below w.heap.size w w' := by
  have HR : Aside0 (R.lv.ask f t k h = if inB f 0 (R.st.length - 1) = false then 2 else if inB t 0 (R.st.length - 1) = false then 2 else if inB k 0 (R.ca.length - 1) = false then 2 else if inB h 0 (R.su.length - 1) = false then 2 else if f = t then 6 else 0) := ⟨by simp [Lv.ask, askF, Rv.lv, Rv.at]⟩
  unfold Rv.cells
  generalize R.st.length = n at *
  generalize R.ca.length = c at *
  generalize R.su.length = s at *
  generalize R.ri.length = r at *
  have e1 : wrap64 ((n : Int) - 1) = n - 1 := wr64 (by omega) (by omega)
  have e2 : wrap64 ((c : Int) - 1) = c - 1 := wr64 (by omega) (by omega)
  have e3 : wrap64 ((s : Int) - 1) = s - 1 := wr64 (by omega) (by omega)
  go_enter Try.func52, Try.ntmps52
  go_wp2_with fail
  refine (in_c _ _ _ _).mono ?_
  rintro e w1 ⟨rfl, rfl⟩
  generalize inB f 0 ((n : Int) - 1) = r0 at *
  cases r0
  · go_wp2_with fail
    go_ret
    exact ⟨by rw [HR.out]; rfl, b1 _ _⟩
  go_wp2_with fail
  refine (in_c _ _ _ _).mono ?_
  rintro e w2 ⟨rfl, rfl⟩
  generalize inB t 0 ((n : Int) - 1) = r1 at *
  cases r1
  · go_wp2_with fail
    go_ret
    exact ⟨by rw [HR.out]; rfl, b1 _ _⟩
  go_wp2_with fail
  refine (in_c _ _ _ _).mono ?_
  rintro e w3 ⟨rfl, rfl⟩
  generalize inB k 0 ((c : Int) - 1) = r2 at *
  cases r2
  · go_wp2_with fail
    go_ret
    exact ⟨by rw [HR.out]; rfl, b1 _ _⟩
  go_wp2_with fail
  refine (in_c _ _ _ _).mono ?_
  rintro e w4 ⟨rfl, rfl⟩
  generalize inB h 0 ((s : Int) - 1) = r3 at *
  cases r3
  · go_wp2_with fail
    go_ret
    exact ⟨by rw [HR.out]; rfl, b1 _ _⟩
  by_cases hft : f = t
  · subst hft
    go_wp2_with fail
    go_ret
    exact ⟨by rw [HR.out]; simp, b1 _ _⟩
  · go_wp2_with fail
    go_ret
    exact ⟨by rw [HR.out]; simp [hft], b1 _ _⟩

theorem check_bd (L : Lv) : 0 ≤ L.check ∧ L.check ≤ 3 := by
  unfold Lv.check checkF
  repeat' split
  all_goals omega
/-- The law's fault: the reference's error as the program's. -/
theorem lfault_c (R : Rv) (w : World) (hI : R.In w) : Calls Try.prog 22 #[.agg R.cells] w fun e w' => e = .returned (.int .i64 R.lv.check) ∧ Below w.heap.size w w' := by
  have HC := Aside0.mk fun W hb => fault_c R W (hI.below hb)
  have D0 := cnew (w := w) (b := w.heap.size) (cs := R.cells) (t := 27) (i := 0) rfl rfl
  clear hI
  unfold Rv.cells at *
  go_enter Try.func22, Try.ntmps22
  go_wp2_with fail
  refine (HC.out _ (b1 _ _)).mono ?_
  rintro e w1 ⟨rfl, hb1⟩
  have HB := Aside0.mk (bt (b1 _ _) hb1)
  clear hb1
  generalize hv : R.lv.check = v at *
  have HV := Aside0.mk hv
  clear hv
  go_wp2_with fail
  go_ret
  exact ⟨ret_i64 HV.out.symm, HB.out⟩
/-- The error that is due. -/
def Lv.due (L : Lv) (f t k h : Int) : Int := if L.check ≠ 0 then L.check else L.ask f t k h
/-- The law's asked. -/
theorem lasked_c (R : Rv) (f t k h : Int) (w : World) (hI : R.In w) : Calls Try.prog 26 #[.agg R.cells, .int .i64 f, .int .i64 t, .int .i64 k, .int .i64 h] w fun e w' => e = .returned (.int .i64 (R.lv.due f t k h)) ∧ Below w.heap.size w w' := by
  have HC := Aside0.mk fun W hb => lfault_c R W (hI.below hb)
  have HA := Aside0.mk fun W => rasked_c R f t k h W hI.r0.2.1 hI.r2.2.1 hI.r3.2.1
  clear hI
  unfold Rv.cells at *
  go_enter Try.func26, Try.ntmps26
  go_wp2_with fail
  refine (HC.out _ (b1 _ _)).mono ?_
  rintro e w1 ⟨rfl, hb1⟩
  have D := blk_below (blk_new w (.cells #[.slice R.A0 R.st.length R.c0, .slice R.A1 R.ri.length R.c1, .slice R.A2 R.ca.length R.c2, .slice R.A3 R.su.length R.c3] 27)) hb1
  have d0 := (blk_cell D 0).trans rfl
  have d1 := (blk_cell D 1).trans rfl
  have d2 := (blk_cell D 2).trans rfl
  have d3 := (blk_cell D 3).trans rfl
  clear D
  have HB := Aside0.mk (bt (b1 _ _) hb1)
  clear hb1
  have HV : Aside0 (∀ v, R.lv.check = v → v = 0 → R.lv.due f t k h = R.lv.ask f t k h) := ⟨fun v h1 h2 => by unfold Lv.due; rw [if_neg]; rw [h1]; simpa using h2⟩
  have HV2 : Aside0 (∀ v, R.lv.check = v → v ≠ 0 → R.lv.due f t k h = v) := ⟨fun v h1 h2 => by unfold Lv.due; rw [if_pos]; exact h1; rw [h1]; exact h2⟩
  generalize hv : R.lv.check = v at *
  have HV3 := Aside0.mk (HV.out v rfl)
  have HV4 := Aside0.mk (HV2.out v rfl)
  have HVV := Aside0.mk hv
  clear hv HV HV2
  by_cases h0 : v = 0
  · have HE := Aside0.mk (HV3.out h0)
    have t1 : (v != 0) = false := by simpa using h0
    clear h0
    go_wp2_with fail
    refine (HA.out _).mono ?_
    rintro e w2 ⟨rfl, hb2⟩
    have HB2 := Aside0.mk (bt HB.out hb2)
    clear hb2
    go_wp2_with fail
    go_ret
    exact ⟨ret_i64 HE.out.symm, HB2.out⟩
  · have HE := Aside0.mk (HV4.out h0)
    have t1 : (v != 0) = true := by simpa using h0
    clear h0
    go_wp2_with fail
    go_ret
    exact ⟨ret_i64 HE.out.symm, HB.out⟩
end Go.Proofs.Ytkbdphjnpieceaa.G
