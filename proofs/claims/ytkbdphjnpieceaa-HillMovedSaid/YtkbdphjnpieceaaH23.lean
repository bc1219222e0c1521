/- Contract of the exported hill.Rise. Printed by gen_h23.py (h23_head.lean). -/
import Derived.Test.YtkbdphjnpieceaaH22
namespace Go.Proofs.Ytkbdphjnpieceaa.G
open Go.RowKit Go.Proofs.YtkbdphjnpieceaaW.PrintWords Go.Proofs.YtkbdphjnpieceaaW.PrintLast Go.Proofs.YtkbdphjnpieceaaW.PrintMore
open Go.Sort (grow)
set_option linter.unusedVariables false
set_option linter.unusedSimpArgs false

def rise.T7 : Bool × List (List Nat × List Nat) := (true, [([], []), ([0], [0]), ([], []), ([1, 2], [1, 2]), ([3], [3]), ([], []), ([5], [5]), ([], []), ([6, 7], [6, 7]), ([8], [8]), ([], []), ([], []), ([10, 4, 0, 1, 2, 3, 4, 10, 11], [4, 10]), ([11, 9, 12, 0, 1, 2, 3, 4, 5, 6, 7, 8, 9, 10, 11, 12], [9, 11])])
def rise.B7 : List Nat := [0, 1, 0, 7, 15, 0, 32, 0, 224, 480, 0, 0, 3103, 8191]
theorem rise.tab7 : rtab .any (opsOf Try.f28 7) = rise.T7 := by kernel_rfl
theorem rise.bits7 : waitsOk rise.T7.2 rise.B7 = true := by kernel_rfl
theorem up_ok {s : S85} {n : Int} (hs : okSt s) (h0 : 0 ≤ n) (h1 : n ≤ 1000 - s.f2) : okSt (upS s n) := ⟨hs.1, hs.2.1, by have := hs.2.2; simp only [upS]; omega⟩
theorem ri_ok {L : Lv} (h : L.check = 0) : ∀ x ∈ L.ri, okWl x := by
  intro x hx
  obtain ⟨i, hi, rfl⟩ := List.mem_iff_getElem.1 hx
  have h1 := (Lv.ok_of h).ri i hi
  have e : rd_T86 L.ri (i : Int) = L.ri[i] := by
    unfold rd_T86
    rw [Int.toNat_natCast, List.getD_eq_getElem?_getD, List.getElem?_eq_getElem hi]
    rfl
  rwa [e] at h1
/-- The smallest number for which p holds, by halving. -/
def halve (p : Int → Bool) : Nat → Int → Int → Int
  | 0, low, _ => low
  | k + 1, low, high => if low < high then (if p ((low + high) / 2) = true then halve p k low ((low + high) / 2) else halve p k ((low + high) / 2 + 1) high) else low
/-- hill.Rise. -/
def riseF (L : Lv) (f t : Int) : Int × Int :=
  if freeB L (rd_T85 L.st f) (rd_T85 L.st t) (1000 - (rd_T85 L.st f).f2) = false then (0, 9) else (halve (freeB L (rd_T85 L.st f) (rd_T85 L.st t)) 1001 0 (1000 - (rd_T85 L.st f).f2), 0)
def riseE (L : Lv) (f t : Int) : Int × Int :=
  if L.check ≠ 0 then (0, L.check) else if L.ask f t 0 0 ≠ 0 then (0, L.ask f t 0 0) else riseF L f t

set_option maxRecDepth 100000 in
set_option maxHeartbeats 2000000 in
theorem Rise_c (L : Lv) (f t : Int) (w : World) (hI : L.In w) :
    Calls Try.prog 28 #[.agg #[.slice L.A0 L.st.length L.c0, .slice L.A1 L.ri.length L.c1, .slice L.A2 L.ca.length L.c2, .slice L.A3 L.su.length L.c3], .int .i64 f, .int .i64 t] w
      fun e w' => e = .returned (.tuple #[.int .i64 (riseE L f t).1, .int .i64 (riseE L f t).2]) ∧ Below w.heap.size w w' := by
  have HI := Aside0.mk hI
  have hl0 := hI.r0.2.1
  have hl2 := hI.r2.2.1
  have hl3 := hI.r3.2.1
  have HC := Aside0.mk fun W hb => check_c L.st L.ri L.ca L.su L.A0 L.A1 L.A2 L.A3 L.c0 L.c1 L.c2 L.c3 W (Kd.C_below hI.r0 hb) hI.h0 (Kd.C_below hI.r1 hb) (Kd.C_below hI.r2 hb) (Kd.C_below hI.r3 hb)
  clear hI
  have HE : Aside0 (riseE L f t = if L.check ≠ 0 then (0, L.check) else if L.ask f t 0 0 ≠ 0 then (0, L.ask f t 0 0) else riseF L f t) := ⟨rfl⟩
  have HK : Aside0 (L.check = checkF L.st L.ri L.ca L.su) := ⟨rfl⟩
  go_enter Try.func28, Try.ntmps28
  go_wp2_with fail
  refine (HC.out _ (b1 _ _)).mono ?_
  rintro e w1 ⟨rfl, hb1⟩
  have hbk := blk_below (blk_new w (.cells #[.slice L.A0 L.st.length L.c0, .slice L.A1 L.ri.length L.c1, .slice L.A2 L.ca.length L.c2, .slice L.A3 L.su.length L.c3] 39)) hb1
  have HB := Aside0.mk (bt (b1 w (.cells #[.slice L.A0 L.st.length L.c0, .slice L.A1 L.ri.length L.c1, .slice L.A2 L.ca.length L.c2, .slice L.A3 L.su.length L.c3] 39)) hb1)
  clear hb1
  have HBK := Aside0.mk hbk
  have d0 := (blk_cell hbk 0).trans rfl
  have d1 := (blk_cell hbk 1).trans rfl
  have d2 := (blk_cell hbk 2).trans rfl
  have d3 := (blk_cell hbk 3).trans rfl
  clear hbk
  generalize checkF L.st L.ri L.ca L.su = c at *
  by_cases hc : c = 0
  · subst hc
    go_wp2_with fail
    have HA : Aside0 (L.ask f t 0 0 = askF L.st.length L.ca.length L.su.length f t 0 0) := ⟨rfl⟩
    refine (asked_c L.A0 L.A1 L.A2 L.A3 _ _ _ _ L.c0 L.c1 L.c2 L.c3 hl0 hl2 hl3 f t 0 0 _).mono ?_
    rintro e w2 ⟨rfl, hb2⟩
    by_cases hak : askF L.st.length L.ca.length L.su.length f t 0 0 = 0
    · have HAK := Aside0.mk (ask_ok hak)
      have HE' : Aside0 (riseE L f t = riseF L f t) := ⟨by rw [HE.out, if_neg (by rw [HK.out]; decide), if_neg (by rw [HA.out, hak]; decide)]⟩
      have HB2 := Aside0.mk hb2
      rw [hak]
      clear hb2 hak d1 d2 d3
      go_wp2_with fail
      obtain ⟨⟨⟨a1, a2⟩, ⟨a3, a4⟩, _, _⟩, _⟩ := HAK.out
      have hBw := bt HB.out HB2.out
      obtain ⟨ad0, e0, x0, x1, x2, x3⟩ := at_T85 HI.out.r0 f a1 a2
      obtain ⟨ad0', e0', y0, y1, y2, y3⟩ := at_T85 HI.out.r0 t a3 a4
      rw [e0] at e0'
      cases e0'
      rw [e0] at d0
      replace d0 := Aside0.mk (cb HB2.out d0)
      replace x0 := Aside0.mk (cb hBw x0)
      replace x1 := Aside0.mk (cb hBw x1)
      replace x2 := Aside0.mk (cb hBw x2)
      replace x3 := Aside0.mk (cb hBw x3)
      replace y0 := Aside0.mk (cb hBw y0)
      replace y1 := Aside0.mk (cb hBw y1)
      replace y2 := Aside0.mk (cb hBw y2)
      replace y3 := Aside0.mk (cb hBw y3)
      have HBw := Aside0.mk hBw
      have HOK : Aside0 (L.Ok ∧ ∀ x ∈ L.ri, okWl x) := ⟨Lv.ok_of HK.out, ri_ok HK.out⟩
      clear hBw e0
      refine start_ (n := 14) (S := fun w' => True) (ds := []) #[false, false, false, false, false, false, false, false, false, false, false, false, false, false] (by kernel_rfl) rfl rfl trivial (fun hHeld => ?_)
      refine with_tabW rise.tab7 rise.bits7 (fun HT_ HW_ => ?_)
      have HBW := Aside0.mk (below_drew (Below.refl w2.heap.size w2))
      generalize w2.drew = W1 at *
      refine inv_at [0, 1, 2, 3, 4, 5, 6, 7, 8, 9, 10, 11, 12, 13] (fun a0_ b a w' => ∃ (ga : Nat) (gb : Nat) (m10_ : Value) (m11_ : Value), a = putSel a0_ b [(0, 29, .pointer (some ⟨w.heap.size, 0, none⟩)), (1, 30, .slice (some ad0) L.st.length L.c0), (2, 31, .int .i64 f), (3, 32, .pointer (some (ad0.add (f.toNat * 4)))), (4, 33, .agg #[.int .i64 (rd_T85 L.st f).f0, .int .i64 (rd_T85 L.st f).f1, .int .i64 (rd_T85 L.st f).f2, .int .i64 (rd_T85 L.st f).f3]), (5, 34, .pointer (some ⟨w.heap.size, 0, none⟩)), (6, 35, .slice (some ad0) L.st.length L.c0), (7, 36, .int .i64 t), (8, 37, .pointer (some (ad0.add (t.toNat * 4)))), (9, 38, .agg #[.int .i64 (rd_T85 L.st t).f0, .int .i64 (rd_T85 L.st t).f1, .int .i64 (rd_T85 L.st t).f2, .int .i64 (rd_T85 L.st t).f3]), (10, 10, m10_), (11, 11, m11_)] ∧ (Below w2.heap.size w2 w') ∧ (b 10 = true → w2.heap.size ≤ ga ∧ ∃ u0 u1 u2 u3 : Value, w'.heap[ga]? = some (.cells #[u0, u1, u2, u3] 85 (0, 0))) ∧ (b 11 = true → w2.heap.size ≤ gb ∧ ∃ u0 u1 u2 u3 : Value, w'.heap[gb]? = some (.cells #[u0, u1, u2, u3] 85 (0, 0))) ∧ (b 10 = true → b 11 = true → ga ≠ gb) ∧ (b 12 = true → w'.heap[ga]? = some (.cells #[.int .i64 (rd_T85 L.st f).f0, .int .i64 (rd_T85 L.st f).f1, .int .i64 (rd_T85 L.st f).f2, .int .i64 (rd_T85 L.st f).f3] 85 (0, 0))) ∧ (b 13 = true → w'.heap[gb]? = some (.cells #[.int .i64 (rd_T85 L.st t).f0, .int .i64 (rd_T85 L.st t).f1, .int .i64 (rd_T85 L.st t).f2, .int .i64 (rd_T85 L.st t).f3] 85 (0, 0))) ∧ (b 10 = true → (m10_ : Value) = .pointer (some ⟨ga, 0, none⟩)) ∧ (b 11 = true → (m11_ : Value) = .pointer (some ⟨gb, 0, none⟩))) HT_.out HW_.out (by kernel_rfl) (by kernel_rfl) ?_ ?_ ?_
      · exact ⟨0, 0, .bool false, .bool false, by simp only [putSel, Bool.false_eq_true, if_false], HBW.out, fun h_ => absurd h_ (by decide), fun h_ => absurd h_ (by decide), fun h_ => absurd h_ (by decide), fun h_ => absurd h_ (by decide), fun h_ => absurd h_ (by decide), fun h_ => absurd h_ (by decide), fun h_ => absurd h_ (by decide)⟩
      · skip
        clear HBW
        refine steps_cons ?_ ?_
        · rintro b a w' ⟨ga, gb, m10_, m11_, ha, Q_HBW, Q_Fga, Q_Fgb, Q_Ngagb, Q_Sga, Q_Sgb, Q_X10_, Q_X11_⟩ hb_ hon hoff
          refine ⟨_, rfl, fun K hK => ?_⟩
          have e3 : a.tmps[3]? = some (.pointer (some ⟨w.heap.size, 0, none⟩)) := by rw [ha]; exact (putSel_off rfl).trans rfl
          replace ha := Aside0.mk ha
          have HBW := Aside0.mk Q_HBW
          refine value_ (w1 := w') (v := .pointer (some ⟨w.heap.size, 0, none⟩)) (by rfl) rfl ?_ ?_
          · go_simp
            (try simp only [i64_w])
            try rfl
          refine hK.out _ _ ⟨ga, gb, m10_, m11_, (by rw [ha.out]; exact putSel_upk 0 hb_ rfl rfl rfl), Q_HBW, Q_Fga, Q_Fgb, Q_Ngagb, fun h0_ => absurd ((hoff 12 (by kernel_rfl)).symm.trans h0_) (by decide), fun h0_ => absurd ((hoff 13 (by kernel_rfl)).symm.trans h0_) (by decide), Q_X10_, Q_X11_⟩
        refine steps_cons ?_ ?_
        · rintro b a w' ⟨ga, gb, m10_, m11_, ha, Q_HBW, Q_Fga, Q_Fgb, Q_Ngagb, Q_Sga, Q_Sgb, Q_X10_, Q_X11_⟩ hb_ hon hoff
          refine ⟨_, rfl, fun K hK => ?_⟩
          have e29 : a.tmps[29]? = some (.pointer (some ⟨w.heap.size, 0, none⟩)) := by rw [ha]; exact putSel_on (e := (0, 29, .pointer (some ⟨w.heap.size, 0, none⟩))) 0 rfl rfl (hon 0 (by kernel_rfl)) rfl
          replace ha := Aside0.mk ha
          have HBW := Aside0.mk Q_HBW
          have k0_ := cb HBW.out d0.out
          refine value_ (w1 := w') (v := .slice (some ad0) L.st.length L.c0) (by rfl) rfl ?_ ?_
          · go_simp
            (try simp only [i64_w])
            try rfl
          refine hK.out _ _ ⟨ga, gb, m10_, m11_, (by rw [ha.out]; exact putSel_upk 1 hb_ rfl rfl rfl), Q_HBW, Q_Fga, Q_Fgb, Q_Ngagb, fun h0_ => absurd ((hoff 12 (by kernel_rfl)).symm.trans h0_) (by decide), fun h0_ => absurd ((hoff 13 (by kernel_rfl)).symm.trans h0_) (by decide), Q_X10_, Q_X11_⟩
        refine steps_cons ?_ ?_
        · rintro b a w' ⟨ga, gb, m10_, m11_, ha, Q_HBW, Q_Fga, Q_Fgb, Q_Ngagb, Q_Sga, Q_Sgb, Q_X10_, Q_X11_⟩ hb_ hon hoff
          refine ⟨_, rfl, fun K hK => ?_⟩
          have e1 : a.tmps[1]? = some (.int .i64 f) := by rw [ha]; exact (putSel_off rfl).trans rfl
          replace ha := Aside0.mk ha
          have HBW := Aside0.mk Q_HBW
          refine value_ (w1 := w') (v := .int .i64 f) (by rfl) rfl ?_ ?_
          · go_simp
            (try simp only [i64_w])
            try rfl
          refine hK.out _ _ ⟨ga, gb, m10_, m11_, (by rw [ha.out]; exact putSel_upk 2 hb_ rfl rfl rfl), Q_HBW, Q_Fga, Q_Fgb, Q_Ngagb, fun h0_ => absurd ((hoff 12 (by kernel_rfl)).symm.trans h0_) (by decide), fun h0_ => absurd ((hoff 13 (by kernel_rfl)).symm.trans h0_) (by decide), Q_X10_, Q_X11_⟩
        refine steps_cons ?_ ?_
        · rintro b a w' ⟨ga, gb, m10_, m11_, ha, Q_HBW, Q_Fga, Q_Fgb, Q_Ngagb, Q_Sga, Q_Sgb, Q_X10_, Q_X11_⟩ hb_ hon hoff
          refine ⟨_, rfl, fun K hK => ?_⟩
          have e30 : a.tmps[30]? = some (.slice (some ad0) L.st.length L.c0) := by rw [ha]; exact putSel_on (e := (1, 30, .slice (some ad0) L.st.length L.c0)) 1 rfl rfl (hon 1 (by kernel_rfl)) rfl
          have e31 : a.tmps[31]? = some (.int .i64 f) := by rw [ha]; exact putSel_on (e := (2, 31, .int .i64 f)) 2 rfl rfl (hon 2 (by kernel_rfl)) rfl
          replace ha := Aside0.mk ha
          have HBW := Aside0.mk Q_HBW
          refine value_ (w1 := w') (v := .pointer (some (ad0.add (f.toNat * 4)))) (by rfl) rfl ?_ ?_
          · go_simp
            (try simp only [i64_w])
            try rfl
          refine hK.out _ _ ⟨ga, gb, m10_, m11_, (by rw [ha.out]; exact putSel_upk 3 hb_ rfl rfl rfl), Q_HBW, Q_Fga, Q_Fgb, Q_Ngagb, fun h0_ => absurd ((hoff 12 (by kernel_rfl)).symm.trans h0_) (by decide), fun h0_ => absurd ((hoff 13 (by kernel_rfl)).symm.trans h0_) (by decide), Q_X10_, Q_X11_⟩
        refine steps_cons ?_ ?_
        · rintro b a w' ⟨ga, gb, m10_, m11_, ha, Q_HBW, Q_Fga, Q_Fgb, Q_Ngagb, Q_Sga, Q_Sgb, Q_X10_, Q_X11_⟩ hb_ hon hoff
          refine ⟨_, rfl, fun K hK => ?_⟩
          have e32 : a.tmps[32]? = some (.pointer (some (ad0.add (f.toNat * 4)))) := by rw [ha]; exact putSel_on (e := (3, 32, .pointer (some (ad0.add (f.toNat * 4))))) 3 rfl rfl (hon 3 (by kernel_rfl)) rfl
          replace ha := Aside0.mk ha
          have HBW := Aside0.mk Q_HBW
          have k0_ := cb HBW.out x0.out
          have k1_ := cb HBW.out x1.out
          have k2_ := cb HBW.out x2.out
          have k3_ := cb HBW.out x3.out
          refine value_ (w1 := w') (v := .agg #[.int .i64 (rd_T85 L.st f).f0, .int .i64 (rd_T85 L.st f).f1, .int .i64 (rd_T85 L.st f).f2, .int .i64 (rd_T85 L.st f).f3]) (by rfl) rfl ?_ ?_
          · go_simp
            (try simp only [i64_w])
            try rfl
          refine hK.out _ _ ⟨ga, gb, m10_, m11_, (by rw [ha.out]; exact putSel_upk 4 hb_ rfl rfl rfl), Q_HBW, Q_Fga, Q_Fgb, Q_Ngagb, fun h0_ => absurd ((hoff 12 (by kernel_rfl)).symm.trans h0_) (by decide), fun h0_ => absurd ((hoff 13 (by kernel_rfl)).symm.trans h0_) (by decide), Q_X10_, Q_X11_⟩
        refine steps_cons ?_ ?_
        · rintro b a w' ⟨ga, gb, m10_, m11_, ha, Q_HBW, Q_Fga, Q_Fgb, Q_Ngagb, Q_Sga, Q_Sgb, Q_X10_, Q_X11_⟩ hb_ hon hoff
          refine ⟨_, rfl, fun K hK => ?_⟩
          have e3 : a.tmps[3]? = some (.pointer (some ⟨w.heap.size, 0, none⟩)) := by rw [ha]; exact (putSel_off rfl).trans rfl
          replace ha := Aside0.mk ha
          have HBW := Aside0.mk Q_HBW
          refine value_ (w1 := w') (v := .pointer (some ⟨w.heap.size, 0, none⟩)) (by rfl) rfl ?_ ?_
          · go_simp
            (try simp only [i64_w])
            try rfl
          refine hK.out _ _ ⟨ga, gb, m10_, m11_, (by rw [ha.out]; exact putSel_upk 5 hb_ rfl rfl rfl), Q_HBW, Q_Fga, Q_Fgb, Q_Ngagb, Q_Sga, fun h0_ => absurd ((hoff 13 (by kernel_rfl)).symm.trans h0_) (by decide), Q_X10_, Q_X11_⟩
        refine steps_cons ?_ ?_
        · rintro b a w' ⟨ga, gb, m10_, m11_, ha, Q_HBW, Q_Fga, Q_Fgb, Q_Ngagb, Q_Sga, Q_Sgb, Q_X10_, Q_X11_⟩ hb_ hon hoff
          refine ⟨_, rfl, fun K hK => ?_⟩
          have e34 : a.tmps[34]? = some (.pointer (some ⟨w.heap.size, 0, none⟩)) := by rw [ha]; exact putSel_on (e := (5, 34, .pointer (some ⟨w.heap.size, 0, none⟩))) 5 rfl rfl (hon 5 (by kernel_rfl)) rfl
          replace ha := Aside0.mk ha
          have HBW := Aside0.mk Q_HBW
          have k0_ := cb HBW.out d0.out
          refine value_ (w1 := w') (v := .slice (some ad0) L.st.length L.c0) (by rfl) rfl ?_ ?_
          · go_simp
            (try simp only [i64_w])
            try rfl
          refine hK.out _ _ ⟨ga, gb, m10_, m11_, (by rw [ha.out]; exact putSel_upk 6 hb_ rfl rfl rfl), Q_HBW, Q_Fga, Q_Fgb, Q_Ngagb, Q_Sga, fun h0_ => absurd ((hoff 13 (by kernel_rfl)).symm.trans h0_) (by decide), Q_X10_, Q_X11_⟩
        refine steps_cons ?_ ?_
        · rintro b a w' ⟨ga, gb, m10_, m11_, ha, Q_HBW, Q_Fga, Q_Fgb, Q_Ngagb, Q_Sga, Q_Sgb, Q_X10_, Q_X11_⟩ hb_ hon hoff
          refine ⟨_, rfl, fun K hK => ?_⟩
          have e2 : a.tmps[2]? = some (.int .i64 t) := by rw [ha]; exact (putSel_off rfl).trans rfl
          replace ha := Aside0.mk ha
          have HBW := Aside0.mk Q_HBW
          refine value_ (w1 := w') (v := .int .i64 t) (by rfl) rfl ?_ ?_
          · go_simp
            (try simp only [i64_w])
            try rfl
          refine hK.out _ _ ⟨ga, gb, m10_, m11_, (by rw [ha.out]; exact putSel_upk 7 hb_ rfl rfl rfl), Q_HBW, Q_Fga, Q_Fgb, Q_Ngagb, Q_Sga, fun h0_ => absurd ((hoff 13 (by kernel_rfl)).symm.trans h0_) (by decide), Q_X10_, Q_X11_⟩
        refine steps_cons ?_ ?_
        · rintro b a w' ⟨ga, gb, m10_, m11_, ha, Q_HBW, Q_Fga, Q_Fgb, Q_Ngagb, Q_Sga, Q_Sgb, Q_X10_, Q_X11_⟩ hb_ hon hoff
          refine ⟨_, rfl, fun K hK => ?_⟩
          have e35 : a.tmps[35]? = some (.slice (some ad0) L.st.length L.c0) := by rw [ha]; exact putSel_on (e := (6, 35, .slice (some ad0) L.st.length L.c0)) 6 rfl rfl (hon 6 (by kernel_rfl)) rfl
          have e36 : a.tmps[36]? = some (.int .i64 t) := by rw [ha]; exact putSel_on (e := (7, 36, .int .i64 t)) 7 rfl rfl (hon 7 (by kernel_rfl)) rfl
          replace ha := Aside0.mk ha
          have HBW := Aside0.mk Q_HBW
          refine value_ (w1 := w') (v := .pointer (some (ad0.add (t.toNat * 4)))) (by rfl) rfl ?_ ?_
          · go_simp
            (try simp only [i64_w])
            try rfl
          refine hK.out _ _ ⟨ga, gb, m10_, m11_, (by rw [ha.out]; exact putSel_upk 8 hb_ rfl rfl rfl), Q_HBW, Q_Fga, Q_Fgb, Q_Ngagb, Q_Sga, fun h0_ => absurd ((hoff 13 (by kernel_rfl)).symm.trans h0_) (by decide), Q_X10_, Q_X11_⟩
        refine steps_cons ?_ ?_
        · rintro b a w' ⟨ga, gb, m10_, m11_, ha, Q_HBW, Q_Fga, Q_Fgb, Q_Ngagb, Q_Sga, Q_Sgb, Q_X10_, Q_X11_⟩ hb_ hon hoff
          refine ⟨_, rfl, fun K hK => ?_⟩
          have e37 : a.tmps[37]? = some (.pointer (some (ad0.add (t.toNat * 4)))) := by rw [ha]; exact putSel_on (e := (8, 37, .pointer (some (ad0.add (t.toNat * 4))))) 8 rfl rfl (hon 8 (by kernel_rfl)) rfl
          replace ha := Aside0.mk ha
          have HBW := Aside0.mk Q_HBW
          have k0_ := cb HBW.out y0.out
          have k1_ := cb HBW.out y1.out
          have k2_ := cb HBW.out y2.out
          have k3_ := cb HBW.out y3.out
          refine value_ (w1 := w') (v := .agg #[.int .i64 (rd_T85 L.st t).f0, .int .i64 (rd_T85 L.st t).f1, .int .i64 (rd_T85 L.st t).f2, .int .i64 (rd_T85 L.st t).f3]) (by rfl) rfl ?_ ?_
          · go_simp
            (try simp only [i64_w])
            try rfl
          refine hK.out _ _ ⟨ga, gb, m10_, m11_, (by rw [ha.out]; exact putSel_upk 9 hb_ rfl rfl rfl), Q_HBW, Q_Fga, Q_Fgb, Q_Ngagb, Q_Sga, fun h0_ => absurd ((hoff 13 (by kernel_rfl)).symm.trans h0_) (by decide), Q_X10_, Q_X11_⟩
        refine steps_cons ?_ ?_
        · rintro b a w' ⟨ga, gb, m10_, m11_, ha, Q_HBW, Q_Fga, Q_Fgb, Q_Ngagb, Q_Sga, Q_Sgb, Q_X10_, Q_X11_⟩ hb_ hon hoff
          refine ⟨_, rfl, fun K hK => ?_⟩
          replace ha := Aside0.mk ha
          have HBW := Aside0.mk Q_HBW
          refine value_ (w1 := w'.alloc (.cells #[.int .i64 0, .int .i64 0, .int .i64 0, .int .i64 0] 85)) (v := .pointer (some ⟨w'.heap.size, 0, none⟩)) (by rfl) rfl (by go_simp) ?_
          have hbb := b1 w' (.cells #[.int .i64 0, .int .i64 0, .int .i64 0, .int .i64 0] 85)
          have z_Ngagb := fun (h0_ : up b 10 10 = true) (h1_ : up b 10 11 = true) => (show w'.heap.size ≠ gb from fun h => by obtain ⟨_, _, _, _, _, h2⟩ := Q_Fgb h1_; exact absurd (blk_lt h2) (h ▸ Nat.lt_irrefl _))
          refine hK.out _ _ ⟨w'.heap.size, gb, (.pointer (some ⟨w'.heap.size, 0, none⟩)), m11_, (by rw [ha.out]; exact putSel_upk 10 hb_ rfl rfl rfl), bt HBW.out hbb, fun _ => ⟨HBW.out.size, _, _, _, _, blk_new _ _⟩, fun h0_ => ⟨(Q_Fgb h0_).1, (fun ⟨u0, u1, u2, u3, h⟩ => ⟨u0, u1, u2, u3, blk_below h hbb⟩) (Q_Fgb h0_).2⟩, z_Ngagb, fun h0_ => absurd ((hoff 12 (by kernel_rfl)).symm.trans h0_) (by decide), fun h0_ => absurd ((hoff 13 (by kernel_rfl)).symm.trans h0_) (by decide), fun _ => rfl, Q_X11_⟩
        refine steps_cons ?_ ?_
        · rintro b a w' ⟨ga, gb, m10_, m11_, ha, Q_HBW, Q_Fga, Q_Fgb, Q_Ngagb, Q_Sga, Q_Sgb, Q_X10_, Q_X11_⟩ hb_ hon hoff
          refine ⟨_, rfl, fun K hK => ?_⟩
          replace ha := Aside0.mk ha
          have HBW := Aside0.mk Q_HBW
          refine value_ (w1 := w'.alloc (.cells #[.int .i64 0, .int .i64 0, .int .i64 0, .int .i64 0] 85)) (v := .pointer (some ⟨w'.heap.size, 0, none⟩)) (by rfl) rfl (by go_simp) ?_
          have hbb := b1 w' (.cells #[.int .i64 0, .int .i64 0, .int .i64 0, .int .i64 0] 85)
          have z_Ngagb := fun (h0_ : up b 11 10 = true) (h1_ : up b 11 11 = true) => (show ga ≠ w'.heap.size from fun h => by obtain ⟨_, _, _, _, _, h2⟩ := Q_Fga h0_; exact absurd (blk_lt h2) (h ▸ Nat.lt_irrefl _))
          refine hK.out _ _ ⟨ga, w'.heap.size, m10_, (.pointer (some ⟨w'.heap.size, 0, none⟩)), (by rw [ha.out]; exact putSel_upk 11 hb_ rfl rfl rfl), bt HBW.out hbb, fun h0_ => ⟨(Q_Fga h0_).1, (fun ⟨u0, u1, u2, u3, h⟩ => ⟨u0, u1, u2, u3, blk_below h hbb⟩) (Q_Fga h0_).2⟩, fun _ => ⟨HBW.out.size, _, _, _, _, blk_new _ _⟩, z_Ngagb, fun h0_ => absurd ((hoff 12 (by kernel_rfl)).symm.trans h0_) (by decide), fun h0_ => absurd ((hoff 13 (by kernel_rfl)).symm.trans h0_) (by decide), Q_X10_, fun _ => rfl⟩
        refine steps_cons ?_ ?_
        · rintro b a w' ⟨ga, gb, m10_, m11_, ha, Q_HBW, Q_Fga, Q_Fgb, Q_Ngagb, Q_Sga, Q_Sgb, Q_X10_, Q_X11_⟩ hb_ hon hoff
          refine ⟨_, rfl, fun K hK => ?_⟩
          have e10 : a.tmps[10]? = some (m10_) := by rw [ha]; exact putSel_on (e := (10, 10, m10_)) 10 rfl rfl (hon 10 (by kernel_rfl)) rfl
          rw [Q_X10_ (hon 10 (by kernel_rfl))] at e10
          have e33 : a.tmps[33]? = some (.agg #[.int .i64 (rd_T85 L.st f).f0, .int .i64 (rd_T85 L.st f).f1, .int .i64 (rd_T85 L.st f).f2, .int .i64 (rd_T85 L.st f).f3]) := by rw [ha]; exact putSel_on (e := (4, 33, .agg #[.int .i64 (rd_T85 L.st f).f0, .int .i64 (rd_T85 L.st f).f1, .int .i64 (rd_T85 L.st f).f2, .int .i64 (rd_T85 L.st f).f3])) 4 rfl rfl (hon 4 (by kernel_rfl)) rfl
          replace ha := Aside0.mk ha
          have HBW := Aside0.mk Q_HBW
          have Fga := Aside0.mk (Q_Fga (hon 10 (by kernel_rfl)))
          have Fgb := Aside0.mk (Q_Fgb (hon 11 (by kernel_rfl)))
          have Ngagb := Aside0.mk (Q_Ngagb (hon 10 (by kernel_rfl)) (hon 11 (by kernel_rfl)))
          obtain ⟨hgs_, u0, u1, u2, u3, gk⟩ := Fga.out
          have c0 := (blk_cell (gk) 0).trans rfl
          have f0 := blk_frozen (gk) 0
          have c1 := (blk_cell (blk_set (gk) 0 (.int .i64 (rd_T85 L.st f).f0)) 1).trans rfl
          have f1 := blk_frozen (blk_set (gk) 0 (.int .i64 (rd_T85 L.st f).f0)) 1
          have c2 := (blk_cell (blk_set (blk_set (gk) 0 (.int .i64 (rd_T85 L.st f).f0)) 1 (.int .i64 (rd_T85 L.st f).f1)) 2).trans rfl
          have f2 := blk_frozen (blk_set (blk_set (gk) 0 (.int .i64 (rd_T85 L.st f).f0)) 1 (.int .i64 (rd_T85 L.st f).f1)) 2
          have c3 := (blk_cell (blk_set (blk_set (blk_set (gk) 0 (.int .i64 (rd_T85 L.st f).f0)) 1 (.int .i64 (rd_T85 L.st f).f1)) 2 (.int .i64 (rd_T85 L.st f).f2)) 3).trans rfl
          have f3 := blk_frozen (blk_set (blk_set (blk_set (gk) 0 (.int .i64 (rd_T85 L.st f).f0)) 1 (.int .i64 (rd_T85 L.st f).f1)) 2 (.int .i64 (rd_T85 L.st f).f2)) 3
          have nend := blk_set (blk_set (blk_set (blk_set (gk) 0 (.int .i64 (rd_T85 L.st f).f0)) 1 (.int .i64 (rd_T85 L.st f).f1)) 2 (.int .i64 (rd_T85 L.st f).f2)) 3 (.int .i64 (rd_T85 L.st f).f3)
          refine skip_ (w1 := ((((w'.setCell ⟨ga, 0, none⟩ (.int .i64 (rd_T85 L.st f).f0)).setCell ⟨ga, 1, none⟩ (.int .i64 (rd_T85 L.st f).f1)).setCell ⟨ga, 2, none⟩ (.int .i64 (rd_T85 L.st f).f2)).setCell ⟨ga, 3, none⟩ (.int .i64 (rd_T85 L.st f).f3))) (by rfl) rfl (by go_simp) ?_
          refine hK.out _ _ ⟨ga, gb, m10_, m11_, (by rw [ha.out]; exact putSel_none (v := undef) rfl), below_set (below_set (below_set (below_set (HBW.out) hgs_) hgs_) hgs_) hgs_, fun _ => ⟨hgs_, _, _, _, _, nend⟩, fun _ => ⟨Fgb.out.1, (fun ⟨u0, u1, u2, u3, h⟩ => ⟨u0, u1, u2, u3, blk_far (blk_far (blk_far (blk_far (h) Ngagb.out.symm _) Ngagb.out.symm _) Ngagb.out.symm _) Ngagb.out.symm _⟩) Fgb.out.2⟩, fun _ _ => Ngagb.out, fun _ => nend, fun h0_ => absurd ((hoff 13 (by kernel_rfl)).symm.trans h0_) (by decide), Q_X10_, Q_X11_⟩
        refine steps_cons ?_ ?_
        · rintro b a w' ⟨ga, gb, m10_, m11_, ha, Q_HBW, Q_Fga, Q_Fgb, Q_Ngagb, Q_Sga, Q_Sgb, Q_X10_, Q_X11_⟩ hb_ hon hoff
          refine ⟨_, rfl, fun K hK => ?_⟩
          have e11 : a.tmps[11]? = some (m11_) := by rw [ha]; exact putSel_on (e := (11, 11, m11_)) 11 rfl rfl (hon 11 (by kernel_rfl)) rfl
          rw [Q_X11_ (hon 11 (by kernel_rfl))] at e11
          have e38 : a.tmps[38]? = some (.agg #[.int .i64 (rd_T85 L.st t).f0, .int .i64 (rd_T85 L.st t).f1, .int .i64 (rd_T85 L.st t).f2, .int .i64 (rd_T85 L.st t).f3]) := by rw [ha]; exact putSel_on (e := (9, 38, .agg #[.int .i64 (rd_T85 L.st t).f0, .int .i64 (rd_T85 L.st t).f1, .int .i64 (rd_T85 L.st t).f2, .int .i64 (rd_T85 L.st t).f3])) 9 rfl rfl (hon 9 (by kernel_rfl)) rfl
          replace ha := Aside0.mk ha
          have HBW := Aside0.mk Q_HBW
          have Fga := Aside0.mk (Q_Fga (hon 10 (by kernel_rfl)))
          have Fgb := Aside0.mk (Q_Fgb (hon 11 (by kernel_rfl)))
          have Ngagb := Aside0.mk (Q_Ngagb (hon 10 (by kernel_rfl)) (hon 11 (by kernel_rfl)))
          have Sga := Aside0.mk (Q_Sga (hon 12 (by kernel_rfl)))
          obtain ⟨hgs_, u0, u1, u2, u3, gk⟩ := Fgb.out
          have c0 := (blk_cell (gk) 0).trans rfl
          have f0 := blk_frozen (gk) 0
          have c1 := (blk_cell (blk_set (gk) 0 (.int .i64 (rd_T85 L.st t).f0)) 1).trans rfl
          have f1 := blk_frozen (blk_set (gk) 0 (.int .i64 (rd_T85 L.st t).f0)) 1
          have c2 := (blk_cell (blk_set (blk_set (gk) 0 (.int .i64 (rd_T85 L.st t).f0)) 1 (.int .i64 (rd_T85 L.st t).f1)) 2).trans rfl
          have f2 := blk_frozen (blk_set (blk_set (gk) 0 (.int .i64 (rd_T85 L.st t).f0)) 1 (.int .i64 (rd_T85 L.st t).f1)) 2
          have c3 := (blk_cell (blk_set (blk_set (blk_set (gk) 0 (.int .i64 (rd_T85 L.st t).f0)) 1 (.int .i64 (rd_T85 L.st t).f1)) 2 (.int .i64 (rd_T85 L.st t).f2)) 3).trans rfl
          have f3 := blk_frozen (blk_set (blk_set (blk_set (gk) 0 (.int .i64 (rd_T85 L.st t).f0)) 1 (.int .i64 (rd_T85 L.st t).f1)) 2 (.int .i64 (rd_T85 L.st t).f2)) 3
          have nend := blk_set (blk_set (blk_set (blk_set (gk) 0 (.int .i64 (rd_T85 L.st t).f0)) 1 (.int .i64 (rd_T85 L.st t).f1)) 2 (.int .i64 (rd_T85 L.st t).f2)) 3 (.int .i64 (rd_T85 L.st t).f3)
          refine skip_ (w1 := ((((w'.setCell ⟨gb, 0, none⟩ (.int .i64 (rd_T85 L.st t).f0)).setCell ⟨gb, 1, none⟩ (.int .i64 (rd_T85 L.st t).f1)).setCell ⟨gb, 2, none⟩ (.int .i64 (rd_T85 L.st t).f2)).setCell ⟨gb, 3, none⟩ (.int .i64 (rd_T85 L.st t).f3))) (by rfl) rfl (by go_simp) ?_
          refine hK.out _ _ ⟨ga, gb, m10_, m11_, (by rw [ha.out]; exact putSel_none (v := undef) rfl), below_set (below_set (below_set (below_set (HBW.out) hgs_) hgs_) hgs_) hgs_, fun _ => ⟨Fga.out.1, (fun ⟨u0, u1, u2, u3, h⟩ => ⟨u0, u1, u2, u3, blk_far (blk_far (blk_far (blk_far (h) Ngagb.out _) Ngagb.out _) Ngagb.out _) Ngagb.out _⟩) Fga.out.2⟩, fun _ => ⟨hgs_, _, _, _, _, nend⟩, fun _ _ => Ngagb.out, fun _ => blk_far (blk_far (blk_far (blk_far (Sga.out) Ngagb.out _) Ngagb.out _) Ngagb.out _) Ngagb.out _, fun _ => nend, Q_X10_, Q_X11_⟩
        exact steps_nil
      · rintro b a w' hall ⟨ga, gb, m10_, m11_, ha, Q_HBW, Q_Fga, Q_Fgb, Q_Ngagb, Q_Sga, Q_Sgb, Q_X10_, Q_X11_⟩
        clear HBW
        have hb0_ := hall 0 (by kernel_rfl)
        have hb1_ := hall 1 (by kernel_rfl)
        have hb2_ := hall 2 (by kernel_rfl)
        have hb3_ := hall 3 (by kernel_rfl)
        have hb4_ := hall 4 (by kernel_rfl)
        have hb5_ := hall 5 (by kernel_rfl)
        have hb6_ := hall 6 (by kernel_rfl)
        have hb7_ := hall 7 (by kernel_rfl)
        have hb8_ := hall 8 (by kernel_rfl)
        have hb9_ := hall 9 (by kernel_rfl)
        have hb10_ := hall 10 (by kernel_rfl)
        have hb11_ := hall 11 (by kernel_rfl)
        have hb12_ := hall 12 (by kernel_rfl)
        have hb13_ := hall 13 (by kernel_rfl)
        subst ha
        obtain rfl := Q_X10_ hb10_
        obtain rfl := Q_X11_ hb11_
        simp only [putSel, hb0_, hb1_, hb2_, hb3_, hb4_, hb5_, hb6_, hb7_, hb8_, hb9_, hb10_, hb11_, hb12_, hb13_, if_true, Act.put, List.setIfInBounds_toArray, List.set_cons_zero, List.set_cons_succ]
        have HBW := Aside0.mk Q_HBW
        clear Q_HBW
        have Fga := Aside0.mk (Q_Fga hb10_)
        clear Q_Fga
        have Fgb := Aside0.mk (Q_Fgb hb11_)
        clear Q_Fgb
        have Ngagb := Aside0.mk (Q_Ngagb hb10_ hb11_)
        clear Q_Ngagb
        have Sga := Aside0.mk (Q_Sga hb12_)
        clear Q_Sga
        have Sgb := Aside0.mk (Q_Sgb hb13_)
        clear Q_Sgb
        clear hall hb0_ hb1_ hb2_ hb3_ hb4_ hb5_ hb6_ hb7_ hb8_ hb9_ hb10_ hb11_ hb12_ hb13_
        have FR := Aside0.mk fun (n : Int) (W : World) (hs2 : okSt (upS (rd_T85 L.st f) n)) (hW : Below w'.heap.size w' W) => rise1_c L (rd_T85 L.st f) (rd_T85 L.st t) n ga w.heap.size gb W (HI.out.below (bt HBw.out (bt HBW.out hW))) (HOK.out.2 ) (HOK.out.1.st f a1 a2) hs2 (HOK.out.1.st t a3 a4) (blk_below Sga.out hW) (blk_below HBK.out (bt HB2.out (bt HBW.out hW))) (blk_below Sgb.out hW)
        have hz := (HOK.out.1.st f a1 a2).2.2
        have g2 := fun d os => cell_regrown ((blk_cell Sga.out 2).trans rfl) d os
        have hw := wr64 (n := 1000 - (rd_T85 L.st f).f2) (by omega) (by omega)
        go_wp2_with fail
        refine wp_region_quiet_below (by kernel_rfl) (by kernel_rfl) ?_
        repeat (go_big_quiet_step (fail))
        refine wpQuiet_nil ?_
        intro _ hw'
        obtain ⟨⟨dq, osq⟩, hw''⟩ := hw'
        subst hw''
        have hbq := below_regrown w' dq osq
        generalize grow (redrawn w' dq) osq = W3 at hbq ⊢
        have HBQ := Aside0.mk hbq
        clear g2 hbq
        go_wp2_with fail
        refine (FR.out (1000 - (rd_T85 L.st f).f2) _ (up_ok (HOK.out.1.st f a1 a2) (by omega) (by omega)) HBQ.out).mono ?_
        rintro e w4 ⟨rfl, hb4⟩
        have HB4 := Aside0.mk (bt HBQ.out hb4)
        clear hb4
        have HRF : Aside0 (riseF L f t = if freeB L (rd_T85 L.st f) (rd_T85 L.st t) (1000 - (rd_T85 L.st f).f2) = false then (0, 9) else (halve (freeB L (rd_T85 L.st f) (rd_T85 L.st t)) 1001 0 (1000 - (rd_T85 L.st f).f2), 0)) := ⟨rfl⟩
        have HFB : Aside0 (Below w.heap.size w w4) := ⟨bt HBw.out (bt HBW.out HB4.out)⟩
        cases hfr : freeB L (rd_T85 L.st f) (rd_T85 L.st t) (1000 - (rd_T85 L.st f).f2)
        · have HR2 : Aside0 (riseF L f t = (0, 9)) := ⟨by rw [HRF.out, hfr]; rfl⟩
          clear hfr HRF
          go_wp2_with fail
          ((try simp only [Exit.inBlock, Exit.then]); refine bodyPost_ret (results_tmp2 rfl _ _ _) rfl ?_)
          exact ⟨by rw [HE'.out, HR2.out]; rfl, HFB.out⟩
        · have HR2 : Aside0 (riseF L f t = (halve (freeB L (rd_T85 L.st f) (rd_T85 L.st t)) 1001 0 (1000 - (rd_T85 L.st f).f2), 0)) := ⟨by rw [HRF.out, hfr]; rfl⟩
          clear hfr HRF
          go_wp2_with fail
          go_loopg [13, 14] 1001 (fun gg s13 s14 wr => ∃ low high : Int, s13 = .int .i64 low ∧ s14 = .int .i64 high ∧ 0 ≤ low ∧ low ≤ high ∧ high ≤ 1000 - (rd_T85 L.st f).f2 ∧ high - low < gg ∧ Aside0 (halve (freeB L (rd_T85 L.st f) (rd_T85 L.st t)) 1001 0 (1000 - (rd_T85 L.st f).f2) = halve (freeB L (rd_T85 L.st f) (rd_T85 L.st t)) gg low high) ∧ Aside0 (Below w'.heap.size w' wr))
          case atStart => exact ⟨0, 1000 - (rd_T85 L.st f).f2, rfl, rfl, by omega, by omega, by omega, by omega, ⟨rfl⟩, HB4⟩
          case round =>
            obtain ⟨low, high, rfl, rfl, h1, h2, h3, h4, HH, HBr⟩ := hrel
            by_cases hlt : low < high
            · obtain ⟨k, rfl⟩ : ∃ k, gk = k + 1 := ⟨gk - 1, by omega⟩
              have hw1 := wr64 (n := low + high) (by omega) (by omega)
              have hm : 0 ≤ (low + high) / 2 ∧ low ≤ (low + high) / 2 ∧ (low + high) / 2 < high := by omega
              have HH2 : Aside0 (halve (freeB L (rd_T85 L.st f) (rd_T85 L.st t)) (k + 1) low high = if freeB L (rd_T85 L.st f) (rd_T85 L.st t) ((low + high) / 2) = true then halve (freeB L (rd_T85 L.st f) (rd_T85 L.st t)) k low ((low + high) / 2) else halve (freeB L (rd_T85 L.st f) (rd_T85 L.st t)) k ((low + high) / 2 + 1) high) := ⟨by
                show (if low < high then _ else low) = _
                rw [if_pos hlt]⟩
              go_wp2_with fail
              refine (FR.out ((low + high) / 2) _ (up_ok (HOK.out.1.st f a1 a2) (by omega) (by omega)) HBr.out).mono ?_
              rintro e w5 ⟨rfl, hb5⟩
              have HB5 := Aside0.mk (bt HBr.out hb5)
              clear hb5
              have hw2 := wr64 (n := (low + high) / 2 + 1) (by omega) (by omega)
              cases hfr : freeB L (rd_T85 L.st f) (rd_T85 L.st t) ((low + high) / 2)
              · rw [hfr] at HH2
                clear hfr
                go_wp2_with fail
                go_roundg k
                case measure => omega
                case rel => exact ⟨(low + high) / 2 + 1, high, rfl, rfl, by omega, by omega, by omega, by omega, ⟨by rw [HH.out, HH2.out]; rfl⟩, HB5⟩
              · rw [hfr] at HH2
                clear hfr
                go_wp2_with fail
                go_roundg k
                case measure => omega
                case rel => exact ⟨low, (low + high) / 2, rfl, rfl, by omega, by omega, by omega, by omega, ⟨by rw [HH.out, HH2.out]; rfl⟩, HB5⟩
            · have e1 : high = low := by omega
              subst e1
              obtain ⟨k, rfl⟩ : ∃ k, gk = k + 1 := ⟨gk - 1, by omega⟩
              have HH2 : Aside0 (halve (freeB L (rd_T85 L.st f) (rd_T85 L.st t)) (k + 1) high high = high) := ⟨by
                show (if high < high then _ else high) = _
                rw [if_neg (by omega)]⟩
              go_wp2_with fail
              refine (smallest_c ⟨wr.heap.size, 0, none⟩ 2 high high _ (cnew rfl rfl) (cnew rfl rfl)).mono ?_
              rintro e w5 ⟨rfl, hb5⟩
              have HB5 := Aside0.mk (bt HBr.out (bt (b1 wr (.cells #[.int .i64 high, .int .i64 high] 3)) hb5))
              clear hb5
              rw [show min high high = high by omega]
              go_wp2_with fail
              ((try simp only [Exit.inBlock, Exit.then]); refine bodyPost_ret (results_tmp2 rfl _ _ _) rfl ?_)
              exact ⟨by rw [HE'.out, HR2.out, HH.out, HH2.out]; rfl, bt HBw.out (bt HBW.out HB5.out)⟩
    · have HAK := Aside0.mk hak
      have HB3 := Aside0.mk hb2
      clear hb2
      have HE' : Aside0 (riseE L f t = (0, askF L.st.length L.ca.length L.su.length f t 0 0)) := ⟨by rw [HE.out, if_neg (by rw [HK.out]; decide), if_pos (by rw [HA.out]; exact HAK.out), HA.out]⟩
      generalize askF L.st.length L.ca.length L.su.length f t 0 0 = ak at *
      go_wp2_with fail
      ((try simp only [Exit.inBlock, Exit.then]); refine bodyPost_ret (results_tmp2 rfl _ _ _) rfl ?_)
      exact ⟨by rw [HE'.out]; rfl, bt HB.out HB3.out⟩
  · go_wp2_with fail
    ((try simp only [Exit.inBlock, Exit.then]); refine bodyPost_ret (results_tmp2 rfl _ _ _) rfl ?_)
    exact ⟨by rw [HE.out, if_pos (by rw [HK.out]; exact hc), HK.out]; rfl, HB.out⟩
end Go.Proofs.Ytkbdphjnpieceaa.G
