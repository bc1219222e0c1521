/- Contract of work.mirrors. Printed by gen_h8.py (h8_head.lean, h8_tail.lean). -/
import Derived.Test.YtkbdphjnpieceaaH7
namespace Go.Proofs.Ytkbdphjnpieceaa.G
open Go.RowKit Go.Proofs.YtkbdphjnpieceaaW.PrintWords Go.Proofs.YtkbdphjnpieceaaW.PrintLast Go.Proofs.YtkbdphjnpieceaaW.PrintMore
open Go.Sort (grow)
set_option linter.unusedVariables false
set_option linter.unusedSimpArgs false

def mirrors.T1 : Bool × List (List Nat × List Nat) := (true, [([], []), ([0], [0]), ([1], [1]), ([2], [2]), ([3], [3]), ([], []), ([5], [5]), ([4, 6], [4, 6]), ([7], [7]), ([], []), ([9], [9]), ([10], [10]), ([11], [11]), ([12], [12]), ([], []), ([14], [14]), ([13, 15], [13, 15]), ([16], [16]), ([], []), ([18], [18]), ([19], [19]), ([20], [20]), ([21], [21]), ([], []), ([22, 23], [22, 23]), ([24], [24]), ([], []), ([], []), ([], []), ([26, 8, 0, 1, 2, 3, 4, 5, 6, 7, 8, 26, 27, 28], [8, 26]), ([27, 17, 29, 0, 1, 2, 3, 4, 5, 6, 7, 8, 9, 10, 11, 12, 13, 14, 15, 16, 17, 26, 27, 28, 29], [17, 27]), ([28, 25, 30, 0, 1, 2, 3, 4, 5, 6, 7, 8, 9, 10, 11, 12, 13, 14, 15, 16, 17, 18, 19, 20, 21, 22, 23, 24, 25, 26, 27, 28, 29, 30], [25, 28])])
def mirrors.B1 : List Nat := [0, 1, 3, 7, 15, 0, 32, 127, 255, 0, 512, 1536, 3584, 7680, 0, 16384, 65024, 130560, 0, 262144, 786432, 1835008, 3932160, 0, 16515072, 33292288, 0, 0, 0, 469762559, 1006895103, 2147483647]
theorem mirrors.tab1 : rtab .any (opsOf Try.f50 1) = mirrors.T1 := by kernel_rfl
theorem mirrors.bits1 : waitsOk mirrors.T1.2 mirrors.B1 = true := by kernel_rfl
def okSun (s : S99) : Prop := (-100 ≤ s.f0 ∧ s.f0 ≤ 100) ∧ (-100 ≤ s.f1 ∧ s.f1 ≤ 100)
/-- How many mirrors a station needs. -/
def mirrorsF (a b : S85) (s : S99) : Int := if s.f0 * (b.f0 - a.f0) + s.f1 * (b.f1 - a.f1) < 0 then 2 else 1
set_option maxHeartbeats 2000000 in
set_option maxRecDepth 100000 in
theorem mirrors_c (L : Lv) (g mb n : Nat) (f t h : Int) (w : World) {N : Nat → Prop} (hW : Wk L g mb n N w) (hf0 : 0 ≤ f) (hf : f < L.st.length) (ht0 : 0 ≤ t) (ht : t < L.st.length) (hh0 : 0 ≤ h) (hh : h < L.su.length)
    (oka : okSt (rd_T85 L.st f)) (okb : okSt (rd_T85 L.st t)) (oks : okSun (rd_T99 L.su h)) :
    Calls Try.prog 50 #[.pointer (some ⟨g, 0, none⟩), .agg #[.int .i64 f, .int .i64 t], .int .i64 h] w fun e w' => e = .returned (.int .i64 (mirrorsF (rd_T85 L.st f) (rd_T85 L.st t) (rd_T99 L.su h))) ∧ Below w.heap.size w w' := by
  obtain ⟨ad0, e0, x0, x1, x2, x3⟩ := at_T85 hW.land.r0 f hf0 hf
  obtain ⟨ad0', e0', y0, y1, y2, y3⟩ := at_T85 hW.land.r0 t ht0 ht
  obtain ⟨ad3, e3, s0, s1, s2⟩ := at_T99 hW.land.r3 h hh0 hh
  rw [e0] at e0'
  cases e0'
  have cg0 := (blk_cell hW.blk 0).trans rfl
  have cg3 := (blk_cell hW.blk 3).trans rfl
  rw [e0] at cg0
  rw [e3] at cg3
  have hl0 := hW.land.r0.2.1
  have hl3 := hW.land.r3.2.1
  go_enter Try.func50, Try.ntmps50
  go_upto_region 1 with fail
  refine wp_abs (fun W => Below w.heap.size w W ∧ W.cell? ⟨w.heap.size, 0, none⟩ = some (.int .i64 f) ∧ W.cell? ⟨w.heap.size, 1, none⟩ = some (.int .i64 t)) ⟨b1 _ _, cnew rfl rfl, cnew rfl rfl⟩ ?_
  rintro W ⟨hbW, cp0, cp1⟩
  replace cp0 := Aside0.mk cp0
  replace cp1 := Aside0.mk cp1
  replace cg0 := Aside0.mk (cb hbW cg0)
  replace cg3 := Aside0.mk (cb hbW cg3)
  replace x0 := Aside0.mk (cb hbW x0)
  replace x1 := Aside0.mk (cb hbW x1)
  replace x2 := Aside0.mk (cb hbW x2)
  replace x3 := Aside0.mk (cb hbW x3)
  replace y0 := Aside0.mk (cb hbW y0)
  replace y1 := Aside0.mk (cb hbW y1)
  replace y2 := Aside0.mk (cb hbW y2)
  replace y3 := Aside0.mk (cb hbW y3)
  replace s0 := Aside0.mk (cb hbW s0)
  replace s1 := Aside0.mk (cb hbW s1)
  replace s2 := Aside0.mk (cb hbW s2)
  replace hbW := Aside0.mk hbW
  have HO := Aside0.mk (And.intro oka (And.intro okb oks))
  clear hW oka okb oks e0 e3
  refine start_ (n := 32) (S := fun w' => True) (ds := []) #[false, false, false, false, false, false, false, false, false, false, false, false, false, false, false, false, false, false, false, false, false, false, false, false, false, false, false, false, false, false, false, false] (by kernel_rfl) rfl rfl trivial (fun hHeld => ?_)
  refine with_tabW mirrors.tab1 mirrors.bits1 (fun HT_ HW_ => ?_)
  have HBW := Aside0.mk (below_drew (Below.refl W.heap.size W))
  generalize W.drew = W1 at *
  refine inv_at [0, 1, 2, 3, 4, 5, 6, 7, 8, 9, 10, 11, 12, 13, 14, 15, 16, 17, 18, 19, 20, 21, 22, 23, 24, 25, 26, 27, 28, 29, 30, 31] (fun a0_ b a w' => ∃ (ga : Nat) (gb : Nat) (gs : Nat) (m26_ : Value) (m27_ : Value) (m28_ : Value), a = putSel a0_ b [(0, 10, .pointer (some ⟨g, 0, none⟩)), (1, 11, .pointer (some ⟨g, 0, none⟩)), (2, 12, .pointer (some ⟨g, 0, none⟩)), (3, 13, .pointer (some ⟨g, 0, none⟩)), (4, 14, .slice (some ad0) L.st.length L.c0), (5, 15, .pointer (some ⟨w.heap.size, 0, none⟩)), (6, 16, .int .i64 f), (7, 17, .pointer (some (ad0.add (f.toNat * 4)))), (8, 18, .agg #[.int .i64 (rd_T85 L.st f).f0, .int .i64 (rd_T85 L.st f).f1, .int .i64 (rd_T85 L.st f).f2, .int .i64 (rd_T85 L.st f).f3]), (9, 19, .pointer (some ⟨g, 0, none⟩)), (10, 20, .pointer (some ⟨g, 0, none⟩)), (11, 21, .pointer (some ⟨g, 0, none⟩)), (12, 22, .pointer (some ⟨g, 0, none⟩)), (13, 23, .slice (some ad0) L.st.length L.c0), (14, 24, .pointer (some ⟨w.heap.size, 1, none⟩)), (15, 25, .int .i64 t), (16, 26, .pointer (some (ad0.add (t.toNat * 4)))), (17, 27, .agg #[.int .i64 (rd_T85 L.st t).f0, .int .i64 (rd_T85 L.st t).f1, .int .i64 (rd_T85 L.st t).f2, .int .i64 (rd_T85 L.st t).f3]), (18, 28, .pointer (some ⟨g, 0, none⟩)), (19, 29, .pointer (some ⟨g, 0, none⟩)), (20, 30, .pointer (some ⟨g, 0, none⟩)), (21, 31, .pointer (some ⟨g, 3, none⟩)), (22, 32, .slice (some ad3) L.su.length L.c3), (23, 33, .int .i64 h), (24, 34, .pointer (some (ad3.add (h.toNat * 3)))), (25, 35, .agg #[.int .i64 (rd_T99 L.su h).f0, .int .i64 (rd_T99 L.su h).f1, .int .i64 (rd_T99 L.su h).f2]), (26, 7, m26_), (27, 8, m27_), (28, 9, m28_)] ∧ (Below W.heap.size W w') ∧ (b 26 = true → W.heap.size ≤ ga ∧ ∃ u0 u1 u2 u3 : Value, w'.heap[ga]? = some (.cells #[u0, u1, u2, u3] 85 (0, 0))) ∧ (b 27 = true → W.heap.size ≤ gb ∧ ∃ u0 u1 u2 u3 : Value, w'.heap[gb]? = some (.cells #[u0, u1, u2, u3] 85 (0, 0))) ∧ (b 28 = true → W.heap.size ≤ gs ∧ ∃ u0 u1 u2 : Value, w'.heap[gs]? = some (.cells #[u0, u1, u2] 99 (0, 0))) ∧ (b 26 = true → b 27 = true → ga ≠ gb) ∧ (b 26 = true → b 28 = true → ga ≠ gs) ∧ (b 27 = true → b 28 = true → gb ≠ gs) ∧ (b 29 = true → w'.heap[ga]? = some (.cells #[.int .i64 (rd_T85 L.st f).f0, .int .i64 (rd_T85 L.st f).f1, .int .i64 (rd_T85 L.st f).f2, .int .i64 (rd_T85 L.st f).f3] 85 (0, 0))) ∧ (b 30 = true → w'.heap[gb]? = some (.cells #[.int .i64 (rd_T85 L.st t).f0, .int .i64 (rd_T85 L.st t).f1, .int .i64 (rd_T85 L.st t).f2, .int .i64 (rd_T85 L.st t).f3] 85 (0, 0))) ∧ (b 31 = true → w'.heap[gs]? = some (.cells #[.int .i64 (rd_T99 L.su h).f0, .int .i64 (rd_T99 L.su h).f1, .int .i64 (rd_T99 L.su h).f2] 99 (0, 0))) ∧ (b 26 = true → (m26_ : Value) = .pointer (some ⟨ga, 0, none⟩)) ∧ (b 27 = true → (m27_ : Value) = .pointer (some ⟨gb, 0, none⟩)) ∧ (b 28 = true → (m28_ : Value) = .pointer (some ⟨gs, 0, none⟩))) HT_.out HW_.out (by kernel_rfl) (by kernel_rfl) ?_ ?_ ?_
  · exact ⟨0, 0, 0, .bool false, .bool false, .bool false, by simp only [putSel, Bool.false_eq_true, if_false], HBW.out, fun h_ => absurd h_ (by decide), fun h_ => absurd h_ (by decide), fun h_ => absurd h_ (by decide), fun h_ => absurd h_ (by decide), fun h_ => absurd h_ (by decide), fun h_ => absurd h_ (by decide), fun h_ => absurd h_ (by decide), fun h_ => absurd h_ (by decide), fun h_ => absurd h_ (by decide), fun h_ => absurd h_ (by decide), fun h_ => absurd h_ (by decide), fun h_ => absurd h_ (by decide)⟩
  · skip
    clear HBW
    refine steps_cons ?_ ?_
    · rintro b a w' ⟨ga, gb, gs, m26_, m27_, m28_, ha, Q_HBW, Q_Fga, Q_Fgb, Q_Fgs, Q_Ngagb, Q_Ngags, Q_Ngbgs, Q_Sga, Q_Sgb, Q_Sgs, Q_X26_, Q_X27_, Q_X28_⟩ hb_ hon hoff
      refine ⟨_, rfl, fun K hK => ?_⟩
      have e0 : a.tmps[0]? = some (.pointer (some ⟨g, 0, none⟩)) := by rw [ha]; exact (putSel_off rfl).trans rfl
      replace ha := Aside0.mk ha
      have HBW := Aside0.mk Q_HBW
      refine value_ (w1 := w') (v := .pointer (some ⟨g, 0, none⟩)) (by rfl) rfl ?_ ?_
      · go_simp
        (try simp only [i64_w])
        try rfl
      refine hK.out _ _ ⟨ga, gb, gs, m26_, m27_, m28_, (by rw [ha.out]; exact putSel_upk 0 hb_ rfl rfl rfl), Q_HBW, Q_Fga, Q_Fgb, Q_Fgs, Q_Ngagb, Q_Ngags, Q_Ngbgs, fun h0_ => absurd ((hoff 29 (by kernel_rfl)).symm.trans h0_) (by decide), fun h0_ => absurd ((hoff 30 (by kernel_rfl)).symm.trans h0_) (by decide), fun h0_ => absurd ((hoff 31 (by kernel_rfl)).symm.trans h0_) (by decide), Q_X26_, Q_X27_, Q_X28_⟩
    refine steps_cons ?_ ?_
    · rintro b a w' ⟨ga, gb, gs, m26_, m27_, m28_, ha, Q_HBW, Q_Fga, Q_Fgb, Q_Fgs, Q_Ngagb, Q_Ngags, Q_Ngbgs, Q_Sga, Q_Sgb, Q_Sgs, Q_X26_, Q_X27_, Q_X28_⟩ hb_ hon hoff
      refine ⟨_, rfl, fun K hK => ?_⟩
      have e10 : a.tmps[10]? = some (.pointer (some ⟨g, 0, none⟩)) := by rw [ha]; exact putSel_on (e := (0, 10, .pointer (some ⟨g, 0, none⟩))) 0 rfl rfl (hon 0 (by kernel_rfl)) rfl
      replace ha := Aside0.mk ha
      have HBW := Aside0.mk Q_HBW
      refine value_ (w1 := w') (v := .pointer (some ⟨g, 0, none⟩)) (by rfl) rfl ?_ ?_
      · go_simp
        (try simp only [i64_w])
        try rfl
      refine hK.out _ _ ⟨ga, gb, gs, m26_, m27_, m28_, (by rw [ha.out]; exact putSel_upk 1 hb_ rfl rfl rfl), Q_HBW, Q_Fga, Q_Fgb, Q_Fgs, Q_Ngagb, Q_Ngags, Q_Ngbgs, fun h0_ => absurd ((hoff 29 (by kernel_rfl)).symm.trans h0_) (by decide), fun h0_ => absurd ((hoff 30 (by kernel_rfl)).symm.trans h0_) (by decide), fun h0_ => absurd ((hoff 31 (by kernel_rfl)).symm.trans h0_) (by decide), Q_X26_, Q_X27_, Q_X28_⟩
    refine steps_cons ?_ ?_
    · rintro b a w' ⟨ga, gb, gs, m26_, m27_, m28_, ha, Q_HBW, Q_Fga, Q_Fgb, Q_Fgs, Q_Ngagb, Q_Ngags, Q_Ngbgs, Q_Sga, Q_Sgb, Q_Sgs, Q_X26_, Q_X27_, Q_X28_⟩ hb_ hon hoff
      refine ⟨_, rfl, fun K hK => ?_⟩
      have e11 : a.tmps[11]? = some (.pointer (some ⟨g, 0, none⟩)) := by rw [ha]; exact putSel_on (e := (1, 11, .pointer (some ⟨g, 0, none⟩))) 1 rfl rfl (hon 1 (by kernel_rfl)) rfl
      replace ha := Aside0.mk ha
      have HBW := Aside0.mk Q_HBW
      refine value_ (w1 := w') (v := .pointer (some ⟨g, 0, none⟩)) (by rfl) rfl ?_ ?_
      · go_simp
        (try simp only [i64_w])
        try rfl
      refine hK.out _ _ ⟨ga, gb, gs, m26_, m27_, m28_, (by rw [ha.out]; exact putSel_upk 2 hb_ rfl rfl rfl), Q_HBW, Q_Fga, Q_Fgb, Q_Fgs, Q_Ngagb, Q_Ngags, Q_Ngbgs, fun h0_ => absurd ((hoff 29 (by kernel_rfl)).symm.trans h0_) (by decide), fun h0_ => absurd ((hoff 30 (by kernel_rfl)).symm.trans h0_) (by decide), fun h0_ => absurd ((hoff 31 (by kernel_rfl)).symm.trans h0_) (by decide), Q_X26_, Q_X27_, Q_X28_⟩
    refine steps_cons ?_ ?_
    · rintro b a w' ⟨ga, gb, gs, m26_, m27_, m28_, ha, Q_HBW, Q_Fga, Q_Fgb, Q_Fgs, Q_Ngagb, Q_Ngags, Q_Ngbgs, Q_Sga, Q_Sgb, Q_Sgs, Q_X26_, Q_X27_, Q_X28_⟩ hb_ hon hoff
      refine ⟨_, rfl, fun K hK => ?_⟩
      have e12 : a.tmps[12]? = some (.pointer (some ⟨g, 0, none⟩)) := by rw [ha]; exact putSel_on (e := (2, 12, .pointer (some ⟨g, 0, none⟩))) 2 rfl rfl (hon 2 (by kernel_rfl)) rfl
      replace ha := Aside0.mk ha
      have HBW := Aside0.mk Q_HBW
      refine value_ (w1 := w') (v := .pointer (some ⟨g, 0, none⟩)) (by rfl) rfl ?_ ?_
      · go_simp
        (try simp only [i64_w])
        try rfl
      refine hK.out _ _ ⟨ga, gb, gs, m26_, m27_, m28_, (by rw [ha.out]; exact putSel_upk 3 hb_ rfl rfl rfl), Q_HBW, Q_Fga, Q_Fgb, Q_Fgs, Q_Ngagb, Q_Ngags, Q_Ngbgs, fun h0_ => absurd ((hoff 29 (by kernel_rfl)).symm.trans h0_) (by decide), fun h0_ => absurd ((hoff 30 (by kernel_rfl)).symm.trans h0_) (by decide), fun h0_ => absurd ((hoff 31 (by kernel_rfl)).symm.trans h0_) (by decide), Q_X26_, Q_X27_, Q_X28_⟩
    refine steps_cons ?_ ?_
    · rintro b a w' ⟨ga, gb, gs, m26_, m27_, m28_, ha, Q_HBW, Q_Fga, Q_Fgb, Q_Fgs, Q_Ngagb, Q_Ngags, Q_Ngbgs, Q_Sga, Q_Sgb, Q_Sgs, Q_X26_, Q_X27_, Q_X28_⟩ hb_ hon hoff
      refine ⟨_, rfl, fun K hK => ?_⟩
      have e13 : a.tmps[13]? = some (.pointer (some ⟨g, 0, none⟩)) := by rw [ha]; exact putSel_on (e := (3, 13, .pointer (some ⟨g, 0, none⟩))) 3 rfl rfl (hon 3 (by kernel_rfl)) rfl
      replace ha := Aside0.mk ha
      have HBW := Aside0.mk Q_HBW
      have k0 := cb HBW.out cg0.out
      refine value_ (w1 := w') (v := .slice (some ad0) L.st.length L.c0) (by rfl) rfl ?_ ?_
      · go_simp
        (try simp only [i64_w])
        try rfl
      refine hK.out _ _ ⟨ga, gb, gs, m26_, m27_, m28_, (by rw [ha.out]; exact putSel_upk 4 hb_ rfl rfl rfl), Q_HBW, Q_Fga, Q_Fgb, Q_Fgs, Q_Ngagb, Q_Ngags, Q_Ngbgs, fun h0_ => absurd ((hoff 29 (by kernel_rfl)).symm.trans h0_) (by decide), fun h0_ => absurd ((hoff 30 (by kernel_rfl)).symm.trans h0_) (by decide), fun h0_ => absurd ((hoff 31 (by kernel_rfl)).symm.trans h0_) (by decide), Q_X26_, Q_X27_, Q_X28_⟩
    refine steps_cons ?_ ?_
    · rintro b a w' ⟨ga, gb, gs, m26_, m27_, m28_, ha, Q_HBW, Q_Fga, Q_Fgb, Q_Fgs, Q_Ngagb, Q_Ngags, Q_Ngbgs, Q_Sga, Q_Sgb, Q_Sgs, Q_X26_, Q_X27_, Q_X28_⟩ hb_ hon hoff
      refine ⟨_, rfl, fun K hK => ?_⟩
      have e4 : a.tmps[4]? = some (.pointer (some ⟨w.heap.size, 0, none⟩)) := by rw [ha]; exact (putSel_off rfl).trans rfl
      replace ha := Aside0.mk ha
      have HBW := Aside0.mk Q_HBW
      refine value_ (w1 := w') (v := .pointer (some ⟨w.heap.size, 0, none⟩)) (by rfl) rfl ?_ ?_
      · go_simp
        (try simp only [i64_w])
        try rfl
      refine hK.out _ _ ⟨ga, gb, gs, m26_, m27_, m28_, (by rw [ha.out]; exact putSel_upk 5 hb_ rfl rfl rfl), Q_HBW, Q_Fga, Q_Fgb, Q_Fgs, Q_Ngagb, Q_Ngags, Q_Ngbgs, fun h0_ => absurd ((hoff 29 (by kernel_rfl)).symm.trans h0_) (by decide), fun h0_ => absurd ((hoff 30 (by kernel_rfl)).symm.trans h0_) (by decide), fun h0_ => absurd ((hoff 31 (by kernel_rfl)).symm.trans h0_) (by decide), Q_X26_, Q_X27_, Q_X28_⟩
    refine steps_cons ?_ ?_
    · rintro b a w' ⟨ga, gb, gs, m26_, m27_, m28_, ha, Q_HBW, Q_Fga, Q_Fgb, Q_Fgs, Q_Ngagb, Q_Ngags, Q_Ngbgs, Q_Sga, Q_Sgb, Q_Sgs, Q_X26_, Q_X27_, Q_X28_⟩ hb_ hon hoff
      refine ⟨_, rfl, fun K hK => ?_⟩
      have e15 : a.tmps[15]? = some (.pointer (some ⟨w.heap.size, 0, none⟩)) := by rw [ha]; exact putSel_on (e := (5, 15, .pointer (some ⟨w.heap.size, 0, none⟩))) 5 rfl rfl (hon 5 (by kernel_rfl)) rfl
      replace ha := Aside0.mk ha
      have HBW := Aside0.mk Q_HBW
      have k0 := cb HBW.out cp0.out
      refine value_ (w1 := w') (v := .int .i64 f) (by rfl) rfl ?_ ?_
      · go_simp
        (try simp only [i64_w])
        try rfl
      refine hK.out _ _ ⟨ga, gb, gs, m26_, m27_, m28_, (by rw [ha.out]; exact putSel_upk 6 hb_ rfl rfl rfl), Q_HBW, Q_Fga, Q_Fgb, Q_Fgs, Q_Ngagb, Q_Ngags, Q_Ngbgs, fun h0_ => absurd ((hoff 29 (by kernel_rfl)).symm.trans h0_) (by decide), fun h0_ => absurd ((hoff 30 (by kernel_rfl)).symm.trans h0_) (by decide), fun h0_ => absurd ((hoff 31 (by kernel_rfl)).symm.trans h0_) (by decide), Q_X26_, Q_X27_, Q_X28_⟩
    refine steps_cons ?_ ?_
    · rintro b a w' ⟨ga, gb, gs, m26_, m27_, m28_, ha, Q_HBW, Q_Fga, Q_Fgb, Q_Fgs, Q_Ngagb, Q_Ngags, Q_Ngbgs, Q_Sga, Q_Sgb, Q_Sgs, Q_X26_, Q_X27_, Q_X28_⟩ hb_ hon hoff
      refine ⟨_, rfl, fun K hK => ?_⟩
      have e14 : a.tmps[14]? = some (.slice (some ad0) L.st.length L.c0) := by rw [ha]; exact putSel_on (e := (4, 14, .slice (some ad0) L.st.length L.c0)) 4 rfl rfl (hon 4 (by kernel_rfl)) rfl
      have e16 : a.tmps[16]? = some (.int .i64 f) := by rw [ha]; exact putSel_on (e := (6, 16, .int .i64 f)) 6 rfl rfl (hon 6 (by kernel_rfl)) rfl
      replace ha := Aside0.mk ha
      have HBW := Aside0.mk Q_HBW
      refine value_ (w1 := w') (v := .pointer (some (ad0.add (f.toNat * 4)))) (by rfl) rfl ?_ ?_
      · go_simp
        (try simp only [i64_w])
        try rfl
      refine hK.out _ _ ⟨ga, gb, gs, m26_, m27_, m28_, (by rw [ha.out]; exact putSel_upk 7 hb_ rfl rfl rfl), Q_HBW, Q_Fga, Q_Fgb, Q_Fgs, Q_Ngagb, Q_Ngags, Q_Ngbgs, fun h0_ => absurd ((hoff 29 (by kernel_rfl)).symm.trans h0_) (by decide), fun h0_ => absurd ((hoff 30 (by kernel_rfl)).symm.trans h0_) (by decide), fun h0_ => absurd ((hoff 31 (by kernel_rfl)).symm.trans h0_) (by decide), Q_X26_, Q_X27_, Q_X28_⟩
    refine steps_cons ?_ ?_
    · rintro b a w' ⟨ga, gb, gs, m26_, m27_, m28_, ha, Q_HBW, Q_Fga, Q_Fgb, Q_Fgs, Q_Ngagb, Q_Ngags, Q_Ngbgs, Q_Sga, Q_Sgb, Q_Sgs, Q_X26_, Q_X27_, Q_X28_⟩ hb_ hon hoff
      refine ⟨_, rfl, fun K hK => ?_⟩
      have e17 : a.tmps[17]? = some (.pointer (some (ad0.add (f.toNat * 4)))) := by rw [ha]; exact putSel_on (e := (7, 17, .pointer (some (ad0.add (f.toNat * 4))))) 7 rfl rfl (hon 7 (by kernel_rfl)) rfl
      replace ha := Aside0.mk ha
      have HBW := Aside0.mk Q_HBW
      have k0 := cb HBW.out x0.out
      have k1 := cb HBW.out x1.out
      have k2 := cb HBW.out x2.out
      have k3 := cb HBW.out x3.out
      refine value_ (w1 := w') (v := .agg #[.int .i64 (rd_T85 L.st f).f0, .int .i64 (rd_T85 L.st f).f1, .int .i64 (rd_T85 L.st f).f2, .int .i64 (rd_T85 L.st f).f3]) (by rfl) rfl ?_ ?_
      · go_simp
        (try simp only [i64_w])
        try rfl
      refine hK.out _ _ ⟨ga, gb, gs, m26_, m27_, m28_, (by rw [ha.out]; exact putSel_upk 8 hb_ rfl rfl rfl), Q_HBW, Q_Fga, Q_Fgb, Q_Fgs, Q_Ngagb, Q_Ngags, Q_Ngbgs, fun h0_ => absurd ((hoff 29 (by kernel_rfl)).symm.trans h0_) (by decide), fun h0_ => absurd ((hoff 30 (by kernel_rfl)).symm.trans h0_) (by decide), fun h0_ => absurd ((hoff 31 (by kernel_rfl)).symm.trans h0_) (by decide), Q_X26_, Q_X27_, Q_X28_⟩
    refine steps_cons ?_ ?_
    · rintro b a w' ⟨ga, gb, gs, m26_, m27_, m28_, ha, Q_HBW, Q_Fga, Q_Fgb, Q_Fgs, Q_Ngagb, Q_Ngags, Q_Ngbgs, Q_Sga, Q_Sgb, Q_Sgs, Q_X26_, Q_X27_, Q_X28_⟩ hb_ hon hoff
      refine ⟨_, rfl, fun K hK => ?_⟩
      have e0 : a.tmps[0]? = some (.pointer (some ⟨g, 0, none⟩)) := by rw [ha]; exact (putSel_off rfl).trans rfl
      replace ha := Aside0.mk ha
      have HBW := Aside0.mk Q_HBW
      refine value_ (w1 := w') (v := .pointer (some ⟨g, 0, none⟩)) (by rfl) rfl ?_ ?_
      · go_simp
        (try simp only [i64_w])
        try rfl
      refine hK.out _ _ ⟨ga, gb, gs, m26_, m27_, m28_, (by rw [ha.out]; exact putSel_upk 9 hb_ rfl rfl rfl), Q_HBW, Q_Fga, Q_Fgb, Q_Fgs, Q_Ngagb, Q_Ngags, Q_Ngbgs, Q_Sga, fun h0_ => absurd ((hoff 30 (by kernel_rfl)).symm.trans h0_) (by decide), fun h0_ => absurd ((hoff 31 (by kernel_rfl)).symm.trans h0_) (by decide), Q_X26_, Q_X27_, Q_X28_⟩
    refine steps_cons ?_ ?_
    · rintro b a w' ⟨ga, gb, gs, m26_, m27_, m28_, ha, Q_HBW, Q_Fga, Q_Fgb, Q_Fgs, Q_Ngagb, Q_Ngags, Q_Ngbgs, Q_Sga, Q_Sgb, Q_Sgs, Q_X26_, Q_X27_, Q_X28_⟩ hb_ hon hoff
      refine ⟨_, rfl, fun K hK => ?_⟩
      have e19 : a.tmps[19]? = some (.pointer (some ⟨g, 0, none⟩)) := by rw [ha]; exact putSel_on (e := (9, 19, .pointer (some ⟨g, 0, none⟩))) 9 rfl rfl (hon 9 (by kernel_rfl)) rfl
      replace ha := Aside0.mk ha
      have HBW := Aside0.mk Q_HBW
      refine value_ (w1 := w') (v := .pointer (some ⟨g, 0, none⟩)) (by rfl) rfl ?_ ?_
      · go_simp
        (try simp only [i64_w])
        try rfl
      refine hK.out _ _ ⟨ga, gb, gs, m26_, m27_, m28_, (by rw [ha.out]; exact putSel_upk 10 hb_ rfl rfl rfl), Q_HBW, Q_Fga, Q_Fgb, Q_Fgs, Q_Ngagb, Q_Ngags, Q_Ngbgs, Q_Sga, fun h0_ => absurd ((hoff 30 (by kernel_rfl)).symm.trans h0_) (by decide), fun h0_ => absurd ((hoff 31 (by kernel_rfl)).symm.trans h0_) (by decide), Q_X26_, Q_X27_, Q_X28_⟩
    refine steps_cons ?_ ?_
    · rintro b a w' ⟨ga, gb, gs, m26_, m27_, m28_, ha, Q_HBW, Q_Fga, Q_Fgb, Q_Fgs, Q_Ngagb, Q_Ngags, Q_Ngbgs, Q_Sga, Q_Sgb, Q_Sgs, Q_X26_, Q_X27_, Q_X28_⟩ hb_ hon hoff
      refine ⟨_, rfl, fun K hK => ?_⟩
      have e20 : a.tmps[20]? = some (.pointer (some ⟨g, 0, none⟩)) := by rw [ha]; exact putSel_on (e := (10, 20, .pointer (some ⟨g, 0, none⟩))) 10 rfl rfl (hon 10 (by kernel_rfl)) rfl
      replace ha := Aside0.mk ha
      have HBW := Aside0.mk Q_HBW
      refine value_ (w1 := w') (v := .pointer (some ⟨g, 0, none⟩)) (by rfl) rfl ?_ ?_
      · go_simp
        (try simp only [i64_w])
        try rfl
      refine hK.out _ _ ⟨ga, gb, gs, m26_, m27_, m28_, (by rw [ha.out]; exact putSel_upk 11 hb_ rfl rfl rfl), Q_HBW, Q_Fga, Q_Fgb, Q_Fgs, Q_Ngagb, Q_Ngags, Q_Ngbgs, Q_Sga, fun h0_ => absurd ((hoff 30 (by kernel_rfl)).symm.trans h0_) (by decide), fun h0_ => absurd ((hoff 31 (by kernel_rfl)).symm.trans h0_) (by decide), Q_X26_, Q_X27_, Q_X28_⟩
    refine steps_cons ?_ ?_
    · rintro b a w' ⟨ga, gb, gs, m26_, m27_, m28_, ha, Q_HBW, Q_Fga, Q_Fgb, Q_Fgs, Q_Ngagb, Q_Ngags, Q_Ngbgs, Q_Sga, Q_Sgb, Q_Sgs, Q_X26_, Q_X27_, Q_X28_⟩ hb_ hon hoff
      refine ⟨_, rfl, fun K hK => ?_⟩
      have e21 : a.tmps[21]? = some (.pointer (some ⟨g, 0, none⟩)) := by rw [ha]; exact putSel_on (e := (11, 21, .pointer (some ⟨g, 0, none⟩))) 11 rfl rfl (hon 11 (by kernel_rfl)) rfl
      replace ha := Aside0.mk ha
      have HBW := Aside0.mk Q_HBW
      refine value_ (w1 := w') (v := .pointer (some ⟨g, 0, none⟩)) (by rfl) rfl ?_ ?_
      · go_simp
        (try simp only [i64_w])
        try rfl
      refine hK.out _ _ ⟨ga, gb, gs, m26_, m27_, m28_, (by rw [ha.out]; exact putSel_upk 12 hb_ rfl rfl rfl), Q_HBW, Q_Fga, Q_Fgb, Q_Fgs, Q_Ngagb, Q_Ngags, Q_Ngbgs, Q_Sga, fun h0_ => absurd ((hoff 30 (by kernel_rfl)).symm.trans h0_) (by decide), fun h0_ => absurd ((hoff 31 (by kernel_rfl)).symm.trans h0_) (by decide), Q_X26_, Q_X27_, Q_X28_⟩
    refine steps_cons ?_ ?_
    · rintro b a w' ⟨ga, gb, gs, m26_, m27_, m28_, ha, Q_HBW, Q_Fga, Q_Fgb, Q_Fgs, Q_Ngagb, Q_Ngags, Q_Ngbgs, Q_Sga, Q_Sgb, Q_Sgs, Q_X26_, Q_X27_, Q_X28_⟩ hb_ hon hoff
      refine ⟨_, rfl, fun K hK => ?_⟩
      have e22 : a.tmps[22]? = some (.pointer (some ⟨g, 0, none⟩)) := by rw [ha]; exact putSel_on (e := (12, 22, .pointer (some ⟨g, 0, none⟩))) 12 rfl rfl (hon 12 (by kernel_rfl)) rfl
      replace ha := Aside0.mk ha
      have HBW := Aside0.mk Q_HBW
      have k0 := cb HBW.out cg0.out
      refine value_ (w1 := w') (v := .slice (some ad0) L.st.length L.c0) (by rfl) rfl ?_ ?_
      · go_simp
        (try simp only [i64_w])
        try rfl
      refine hK.out _ _ ⟨ga, gb, gs, m26_, m27_, m28_, (by rw [ha.out]; exact putSel_upk 13 hb_ rfl rfl rfl), Q_HBW, Q_Fga, Q_Fgb, Q_Fgs, Q_Ngagb, Q_Ngags, Q_Ngbgs, Q_Sga, fun h0_ => absurd ((hoff 30 (by kernel_rfl)).symm.trans h0_) (by decide), fun h0_ => absurd ((hoff 31 (by kernel_rfl)).symm.trans h0_) (by decide), Q_X26_, Q_X27_, Q_X28_⟩
    refine steps_cons ?_ ?_
    · rintro b a w' ⟨ga, gb, gs, m26_, m27_, m28_, ha, Q_HBW, Q_Fga, Q_Fgb, Q_Fgs, Q_Ngagb, Q_Ngags, Q_Ngbgs, Q_Sga, Q_Sgb, Q_Sgs, Q_X26_, Q_X27_, Q_X28_⟩ hb_ hon hoff
      refine ⟨_, rfl, fun K hK => ?_⟩
      have e4 : a.tmps[4]? = some (.pointer (some ⟨w.heap.size, 0, none⟩)) := by rw [ha]; exact (putSel_off rfl).trans rfl
      replace ha := Aside0.mk ha
      have HBW := Aside0.mk Q_HBW
      refine value_ (w1 := w') (v := .pointer (some ⟨w.heap.size, 1, none⟩)) (by rfl) rfl ?_ ?_
      · go_simp
        (try simp only [i64_w])
        try rfl
      refine hK.out _ _ ⟨ga, gb, gs, m26_, m27_, m28_, (by rw [ha.out]; exact putSel_upk 14 hb_ rfl rfl rfl), Q_HBW, Q_Fga, Q_Fgb, Q_Fgs, Q_Ngagb, Q_Ngags, Q_Ngbgs, Q_Sga, fun h0_ => absurd ((hoff 30 (by kernel_rfl)).symm.trans h0_) (by decide), fun h0_ => absurd ((hoff 31 (by kernel_rfl)).symm.trans h0_) (by decide), Q_X26_, Q_X27_, Q_X28_⟩
    refine steps_cons ?_ ?_
    · rintro b a w' ⟨ga, gb, gs, m26_, m27_, m28_, ha, Q_HBW, Q_Fga, Q_Fgb, Q_Fgs, Q_Ngagb, Q_Ngags, Q_Ngbgs, Q_Sga, Q_Sgb, Q_Sgs, Q_X26_, Q_X27_, Q_X28_⟩ hb_ hon hoff
      refine ⟨_, rfl, fun K hK => ?_⟩
      have e24 : a.tmps[24]? = some (.pointer (some ⟨w.heap.size, 1, none⟩)) := by rw [ha]; exact putSel_on (e := (14, 24, .pointer (some ⟨w.heap.size, 1, none⟩))) 14 rfl rfl (hon 14 (by kernel_rfl)) rfl
      replace ha := Aside0.mk ha
      have HBW := Aside0.mk Q_HBW
      have k0 := cb HBW.out cp1.out
      refine value_ (w1 := w') (v := .int .i64 t) (by rfl) rfl ?_ ?_
      · go_simp
        (try simp only [i64_w])
        try rfl
      refine hK.out _ _ ⟨ga, gb, gs, m26_, m27_, m28_, (by rw [ha.out]; exact putSel_upk 15 hb_ rfl rfl rfl), Q_HBW, Q_Fga, Q_Fgb, Q_Fgs, Q_Ngagb, Q_Ngags, Q_Ngbgs, Q_Sga, fun h0_ => absurd ((hoff 30 (by kernel_rfl)).symm.trans h0_) (by decide), fun h0_ => absurd ((hoff 31 (by kernel_rfl)).symm.trans h0_) (by decide), Q_X26_, Q_X27_, Q_X28_⟩
    refine steps_cons ?_ ?_
    · rintro b a w' ⟨ga, gb, gs, m26_, m27_, m28_, ha, Q_HBW, Q_Fga, Q_Fgb, Q_Fgs, Q_Ngagb, Q_Ngags, Q_Ngbgs, Q_Sga, Q_Sgb, Q_Sgs, Q_X26_, Q_X27_, Q_X28_⟩ hb_ hon hoff
      refine ⟨_, rfl, fun K hK => ?_⟩
      have e23 : a.tmps[23]? = some (.slice (some ad0) L.st.length L.c0) := by rw [ha]; exact putSel_on (e := (13, 23, .slice (some ad0) L.st.length L.c0)) 13 rfl rfl (hon 13 (by kernel_rfl)) rfl
      have e25 : a.tmps[25]? = some (.int .i64 t) := by rw [ha]; exact putSel_on (e := (15, 25, .int .i64 t)) 15 rfl rfl (hon 15 (by kernel_rfl)) rfl
      replace ha := Aside0.mk ha
      have HBW := Aside0.mk Q_HBW
      refine value_ (w1 := w') (v := .pointer (some (ad0.add (t.toNat * 4)))) (by rfl) rfl ?_ ?_
      · go_simp
        (try simp only [i64_w])
        try rfl
      refine hK.out _ _ ⟨ga, gb, gs, m26_, m27_, m28_, (by rw [ha.out]; exact putSel_upk 16 hb_ rfl rfl rfl), Q_HBW, Q_Fga, Q_Fgb, Q_Fgs, Q_Ngagb, Q_Ngags, Q_Ngbgs, Q_Sga, fun h0_ => absurd ((hoff 30 (by kernel_rfl)).symm.trans h0_) (by decide), fun h0_ => absurd ((hoff 31 (by kernel_rfl)).symm.trans h0_) (by decide), Q_X26_, Q_X27_, Q_X28_⟩
    refine steps_cons ?_ ?_
    · rintro b a w' ⟨ga, gb, gs, m26_, m27_, m28_, ha, Q_HBW, Q_Fga, Q_Fgb, Q_Fgs, Q_Ngagb, Q_Ngags, Q_Ngbgs, Q_Sga, Q_Sgb, Q_Sgs, Q_X26_, Q_X27_, Q_X28_⟩ hb_ hon hoff
      refine ⟨_, rfl, fun K hK => ?_⟩
      have e26 : a.tmps[26]? = some (.pointer (some (ad0.add (t.toNat * 4)))) := by rw [ha]; exact putSel_on (e := (16, 26, .pointer (some (ad0.add (t.toNat * 4))))) 16 rfl rfl (hon 16 (by kernel_rfl)) rfl
      replace ha := Aside0.mk ha
      have HBW := Aside0.mk Q_HBW
      have k0 := cb HBW.out y0.out
      have k1 := cb HBW.out y1.out
      have k2 := cb HBW.out y2.out
      have k3 := cb HBW.out y3.out
      refine value_ (w1 := w') (v := .agg #[.int .i64 (rd_T85 L.st t).f0, .int .i64 (rd_T85 L.st t).f1, .int .i64 (rd_T85 L.st t).f2, .int .i64 (rd_T85 L.st t).f3]) (by rfl) rfl ?_ ?_
      · go_simp
        (try simp only [i64_w])
        try rfl
      refine hK.out _ _ ⟨ga, gb, gs, m26_, m27_, m28_, (by rw [ha.out]; exact putSel_upk 17 hb_ rfl rfl rfl), Q_HBW, Q_Fga, Q_Fgb, Q_Fgs, Q_Ngagb, Q_Ngags, Q_Ngbgs, Q_Sga, fun h0_ => absurd ((hoff 30 (by kernel_rfl)).symm.trans h0_) (by decide), fun h0_ => absurd ((hoff 31 (by kernel_rfl)).symm.trans h0_) (by decide), Q_X26_, Q_X27_, Q_X28_⟩
    refine steps_cons ?_ ?_
    · rintro b a w' ⟨ga, gb, gs, m26_, m27_, m28_, ha, Q_HBW, Q_Fga, Q_Fgb, Q_Fgs, Q_Ngagb, Q_Ngags, Q_Ngbgs, Q_Sga, Q_Sgb, Q_Sgs, Q_X26_, Q_X27_, Q_X28_⟩ hb_ hon hoff
      refine ⟨_, rfl, fun K hK => ?_⟩
      have e0 : a.tmps[0]? = some (.pointer (some ⟨g, 0, none⟩)) := by rw [ha]; exact (putSel_off rfl).trans rfl
      replace ha := Aside0.mk ha
      have HBW := Aside0.mk Q_HBW
      refine value_ (w1 := w') (v := .pointer (some ⟨g, 0, none⟩)) (by rfl) rfl ?_ ?_
      · go_simp
        (try simp only [i64_w])
        try rfl
      refine hK.out _ _ ⟨ga, gb, gs, m26_, m27_, m28_, (by rw [ha.out]; exact putSel_upk 18 hb_ rfl rfl rfl), Q_HBW, Q_Fga, Q_Fgb, Q_Fgs, Q_Ngagb, Q_Ngags, Q_Ngbgs, Q_Sga, Q_Sgb, fun h0_ => absurd ((hoff 31 (by kernel_rfl)).symm.trans h0_) (by decide), Q_X26_, Q_X27_, Q_X28_⟩
    refine steps_cons ?_ ?_
    · rintro b a w' ⟨ga, gb, gs, m26_, m27_, m28_, ha, Q_HBW, Q_Fga, Q_Fgb, Q_Fgs, Q_Ngagb, Q_Ngags, Q_Ngbgs, Q_Sga, Q_Sgb, Q_Sgs, Q_X26_, Q_X27_, Q_X28_⟩ hb_ hon hoff
      refine ⟨_, rfl, fun K hK => ?_⟩
      have e28 : a.tmps[28]? = some (.pointer (some ⟨g, 0, none⟩)) := by rw [ha]; exact putSel_on (e := (18, 28, .pointer (some ⟨g, 0, none⟩))) 18 rfl rfl (hon 18 (by kernel_rfl)) rfl
      replace ha := Aside0.mk ha
      have HBW := Aside0.mk Q_HBW
      refine value_ (w1 := w') (v := .pointer (some ⟨g, 0, none⟩)) (by rfl) rfl ?_ ?_
      · go_simp
        (try simp only [i64_w])
        try rfl
      refine hK.out _ _ ⟨ga, gb, gs, m26_, m27_, m28_, (by rw [ha.out]; exact putSel_upk 19 hb_ rfl rfl rfl), Q_HBW, Q_Fga, Q_Fgb, Q_Fgs, Q_Ngagb, Q_Ngags, Q_Ngbgs, Q_Sga, Q_Sgb, fun h0_ => absurd ((hoff 31 (by kernel_rfl)).symm.trans h0_) (by decide), Q_X26_, Q_X27_, Q_X28_⟩
    refine steps_cons ?_ ?_
    · rintro b a w' ⟨ga, gb, gs, m26_, m27_, m28_, ha, Q_HBW, Q_Fga, Q_Fgb, Q_Fgs, Q_Ngagb, Q_Ngags, Q_Ngbgs, Q_Sga, Q_Sgb, Q_Sgs, Q_X26_, Q_X27_, Q_X28_⟩ hb_ hon hoff
      refine ⟨_, rfl, fun K hK => ?_⟩
      have e29 : a.tmps[29]? = some (.pointer (some ⟨g, 0, none⟩)) := by rw [ha]; exact putSel_on (e := (19, 29, .pointer (some ⟨g, 0, none⟩))) 19 rfl rfl (hon 19 (by kernel_rfl)) rfl
      replace ha := Aside0.mk ha
      have HBW := Aside0.mk Q_HBW
      refine value_ (w1 := w') (v := .pointer (some ⟨g, 0, none⟩)) (by rfl) rfl ?_ ?_
      · go_simp
        (try simp only [i64_w])
        try rfl
      refine hK.out _ _ ⟨ga, gb, gs, m26_, m27_, m28_, (by rw [ha.out]; exact putSel_upk 20 hb_ rfl rfl rfl), Q_HBW, Q_Fga, Q_Fgb, Q_Fgs, Q_Ngagb, Q_Ngags, Q_Ngbgs, Q_Sga, Q_Sgb, fun h0_ => absurd ((hoff 31 (by kernel_rfl)).symm.trans h0_) (by decide), Q_X26_, Q_X27_, Q_X28_⟩
    refine steps_cons ?_ ?_
    · rintro b a w' ⟨ga, gb, gs, m26_, m27_, m28_, ha, Q_HBW, Q_Fga, Q_Fgb, Q_Fgs, Q_Ngagb, Q_Ngags, Q_Ngbgs, Q_Sga, Q_Sgb, Q_Sgs, Q_X26_, Q_X27_, Q_X28_⟩ hb_ hon hoff
      refine ⟨_, rfl, fun K hK => ?_⟩
      have e30 : a.tmps[30]? = some (.pointer (some ⟨g, 0, none⟩)) := by rw [ha]; exact putSel_on (e := (20, 30, .pointer (some ⟨g, 0, none⟩))) 20 rfl rfl (hon 20 (by kernel_rfl)) rfl
      replace ha := Aside0.mk ha
      have HBW := Aside0.mk Q_HBW
      refine value_ (w1 := w') (v := .pointer (some ⟨g, 3, none⟩)) (by rfl) rfl ?_ ?_
      · go_simp
        (try simp only [i64_w])
        try rfl
      refine hK.out _ _ ⟨ga, gb, gs, m26_, m27_, m28_, (by rw [ha.out]; exact putSel_upk 21 hb_ rfl rfl rfl), Q_HBW, Q_Fga, Q_Fgb, Q_Fgs, Q_Ngagb, Q_Ngags, Q_Ngbgs, Q_Sga, Q_Sgb, fun h0_ => absurd ((hoff 31 (by kernel_rfl)).symm.trans h0_) (by decide), Q_X26_, Q_X27_, Q_X28_⟩
    refine steps_cons ?_ ?_
    · rintro b a w' ⟨ga, gb, gs, m26_, m27_, m28_, ha, Q_HBW, Q_Fga, Q_Fgb, Q_Fgs, Q_Ngagb, Q_Ngags, Q_Ngbgs, Q_Sga, Q_Sgb, Q_Sgs, Q_X26_, Q_X27_, Q_X28_⟩ hb_ hon hoff
      refine ⟨_, rfl, fun K hK => ?_⟩
      have e31 : a.tmps[31]? = some (.pointer (some ⟨g, 3, none⟩)) := by rw [ha]; exact putSel_on (e := (21, 31, .pointer (some ⟨g, 3, none⟩))) 21 rfl rfl (hon 21 (by kernel_rfl)) rfl
      replace ha := Aside0.mk ha
      have HBW := Aside0.mk Q_HBW
      have k0 := cb HBW.out cg3.out
      refine value_ (w1 := w') (v := .slice (some ad3) L.su.length L.c3) (by rfl) rfl ?_ ?_
      · go_simp
        (try simp only [i64_w])
        try rfl
      refine hK.out _ _ ⟨ga, gb, gs, m26_, m27_, m28_, (by rw [ha.out]; exact putSel_upk 22 hb_ rfl rfl rfl), Q_HBW, Q_Fga, Q_Fgb, Q_Fgs, Q_Ngagb, Q_Ngags, Q_Ngbgs, Q_Sga, Q_Sgb, fun h0_ => absurd ((hoff 31 (by kernel_rfl)).symm.trans h0_) (by decide), Q_X26_, Q_X27_, Q_X28_⟩
    refine steps_cons ?_ ?_
    · rintro b a w' ⟨ga, gb, gs, m26_, m27_, m28_, ha, Q_HBW, Q_Fga, Q_Fgb, Q_Fgs, Q_Ngagb, Q_Ngags, Q_Ngbgs, Q_Sga, Q_Sgb, Q_Sgs, Q_X26_, Q_X27_, Q_X28_⟩ hb_ hon hoff
      refine ⟨_, rfl, fun K hK => ?_⟩
      have e2 : a.tmps[2]? = some (.int .i64 h) := by rw [ha]; exact (putSel_off rfl).trans rfl
      replace ha := Aside0.mk ha
      have HBW := Aside0.mk Q_HBW
      refine value_ (w1 := w') (v := .int .i64 h) (by rfl) rfl ?_ ?_
      · go_simp
        (try simp only [i64_w])
        try rfl
      refine hK.out _ _ ⟨ga, gb, gs, m26_, m27_, m28_, (by rw [ha.out]; exact putSel_upk 23 hb_ rfl rfl rfl), Q_HBW, Q_Fga, Q_Fgb, Q_Fgs, Q_Ngagb, Q_Ngags, Q_Ngbgs, Q_Sga, Q_Sgb, fun h0_ => absurd ((hoff 31 (by kernel_rfl)).symm.trans h0_) (by decide), Q_X26_, Q_X27_, Q_X28_⟩
    refine steps_cons ?_ ?_
    · rintro b a w' ⟨ga, gb, gs, m26_, m27_, m28_, ha, Q_HBW, Q_Fga, Q_Fgb, Q_Fgs, Q_Ngagb, Q_Ngags, Q_Ngbgs, Q_Sga, Q_Sgb, Q_Sgs, Q_X26_, Q_X27_, Q_X28_⟩ hb_ hon hoff
      refine ⟨_, rfl, fun K hK => ?_⟩
      have e32 : a.tmps[32]? = some (.slice (some ad3) L.su.length L.c3) := by rw [ha]; exact putSel_on (e := (22, 32, .slice (some ad3) L.su.length L.c3)) 22 rfl rfl (hon 22 (by kernel_rfl)) rfl
      have e33 : a.tmps[33]? = some (.int .i64 h) := by rw [ha]; exact putSel_on (e := (23, 33, .int .i64 h)) 23 rfl rfl (hon 23 (by kernel_rfl)) rfl
      replace ha := Aside0.mk ha
      have HBW := Aside0.mk Q_HBW
      refine value_ (w1 := w') (v := .pointer (some (ad3.add (h.toNat * 3)))) (by rfl) rfl ?_ ?_
      · go_simp
        (try simp only [i64_w])
        try rfl
      refine hK.out _ _ ⟨ga, gb, gs, m26_, m27_, m28_, (by rw [ha.out]; exact putSel_upk 24 hb_ rfl rfl rfl), Q_HBW, Q_Fga, Q_Fgb, Q_Fgs, Q_Ngagb, Q_Ngags, Q_Ngbgs, Q_Sga, Q_Sgb, fun h0_ => absurd ((hoff 31 (by kernel_rfl)).symm.trans h0_) (by decide), Q_X26_, Q_X27_, Q_X28_⟩
    refine steps_cons ?_ ?_
    · rintro b a w' ⟨ga, gb, gs, m26_, m27_, m28_, ha, Q_HBW, Q_Fga, Q_Fgb, Q_Fgs, Q_Ngagb, Q_Ngags, Q_Ngbgs, Q_Sga, Q_Sgb, Q_Sgs, Q_X26_, Q_X27_, Q_X28_⟩ hb_ hon hoff
      refine ⟨_, rfl, fun K hK => ?_⟩
      have e34 : a.tmps[34]? = some (.pointer (some (ad3.add (h.toNat * 3)))) := by rw [ha]; exact putSel_on (e := (24, 34, .pointer (some (ad3.add (h.toNat * 3))))) 24 rfl rfl (hon 24 (by kernel_rfl)) rfl
      replace ha := Aside0.mk ha
      have HBW := Aside0.mk Q_HBW
      have k0 := cb HBW.out s0.out
      have k1 := cb HBW.out s1.out
      have k2 := cb HBW.out s2.out
      refine value_ (w1 := w') (v := .agg #[.int .i64 (rd_T99 L.su h).f0, .int .i64 (rd_T99 L.su h).f1, .int .i64 (rd_T99 L.su h).f2]) (by rfl) rfl ?_ ?_
      · go_simp
        (try simp only [i64_w])
        try rfl
      refine hK.out _ _ ⟨ga, gb, gs, m26_, m27_, m28_, (by rw [ha.out]; exact putSel_upk 25 hb_ rfl rfl rfl), Q_HBW, Q_Fga, Q_Fgb, Q_Fgs, Q_Ngagb, Q_Ngags, Q_Ngbgs, Q_Sga, Q_Sgb, fun h0_ => absurd ((hoff 31 (by kernel_rfl)).symm.trans h0_) (by decide), Q_X26_, Q_X27_, Q_X28_⟩
    refine steps_cons ?_ ?_
    · rintro b a w' ⟨ga, gb, gs, m26_, m27_, m28_, ha, Q_HBW, Q_Fga, Q_Fgb, Q_Fgs, Q_Ngagb, Q_Ngags, Q_Ngbgs, Q_Sga, Q_Sgb, Q_Sgs, Q_X26_, Q_X27_, Q_X28_⟩ hb_ hon hoff
      refine ⟨_, rfl, fun K hK => ?_⟩
      replace ha := Aside0.mk ha
      have HBW := Aside0.mk Q_HBW
      refine value_ (w1 := w'.alloc (.cells #[.int .i64 0, .int .i64 0, .int .i64 0, .int .i64 0] 85)) (v := .pointer (some ⟨w'.heap.size, 0, none⟩)) (by rfl) rfl (by go_simp) ?_
      have hbb := b1 w' (.cells #[.int .i64 0, .int .i64 0, .int .i64 0, .int .i64 0] 85)
      have z_Ngagb := fun (h0_ : up b 26 26 = true) (h1_ : up b 26 27 = true) => (show w'.heap.size ≠ gb from fun h => by obtain ⟨_, _, _, _, _, h2⟩ := Q_Fgb h1_; exact absurd (blk_lt h2) (h ▸ Nat.lt_irrefl _))
      have z_Ngags := fun (h0_ : up b 26 26 = true) (h1_ : up b 26 28 = true) => (show w'.heap.size ≠ gs from fun h => by obtain ⟨_, _, _, _, h2⟩ := Q_Fgs h1_; exact absurd (blk_lt h2) (h ▸ Nat.lt_irrefl _))
      refine hK.out _ _ ⟨w'.heap.size, gb, gs, (.pointer (some ⟨w'.heap.size, 0, none⟩)), m27_, m28_, (by rw [ha.out]; exact putSel_upk 26 hb_ rfl rfl rfl), bt HBW.out hbb, fun _ => ⟨HBW.out.size, _, _, _, _, blk_new _ _⟩, fun h0_ => ⟨(Q_Fgb h0_).1, (fun ⟨u0, u1, u2, u3, h⟩ => ⟨u0, u1, u2, u3, blk_below h hbb⟩) (Q_Fgb h0_).2⟩, fun h0_ => ⟨(Q_Fgs h0_).1, (fun ⟨u0, u1, u2, h⟩ => ⟨u0, u1, u2, blk_below h hbb⟩) (Q_Fgs h0_).2⟩, z_Ngagb, z_Ngags, fun h0_ h1_ => (Q_Ngbgs h0_ h1_), fun h0_ => absurd ((hoff 29 (by kernel_rfl)).symm.trans h0_) (by decide), fun h0_ => absurd ((hoff 30 (by kernel_rfl)).symm.trans h0_) (by decide), fun h0_ => absurd ((hoff 31 (by kernel_rfl)).symm.trans h0_) (by decide), fun _ => rfl, Q_X27_, Q_X28_⟩
    refine steps_cons ?_ ?_
    · rintro b a w' ⟨ga, gb, gs, m26_, m27_, m28_, ha, Q_HBW, Q_Fga, Q_Fgb, Q_Fgs, Q_Ngagb, Q_Ngags, Q_Ngbgs, Q_Sga, Q_Sgb, Q_Sgs, Q_X26_, Q_X27_, Q_X28_⟩ hb_ hon hoff
      refine ⟨_, rfl, fun K hK => ?_⟩
      replace ha := Aside0.mk ha
      have HBW := Aside0.mk Q_HBW
      refine value_ (w1 := w'.alloc (.cells #[.int .i64 0, .int .i64 0, .int .i64 0, .int .i64 0] 85)) (v := .pointer (some ⟨w'.heap.size, 0, none⟩)) (by rfl) rfl (by go_simp) ?_
      have hbb := b1 w' (.cells #[.int .i64 0, .int .i64 0, .int .i64 0, .int .i64 0] 85)
      have z_Ngagb := fun (h0_ : up b 27 26 = true) (h1_ : up b 27 27 = true) => (show ga ≠ w'.heap.size from fun h => by obtain ⟨_, _, _, _, _, h2⟩ := Q_Fga h0_; exact absurd (blk_lt h2) (h ▸ Nat.lt_irrefl _))
      have z_Ngbgs := fun (h0_ : up b 27 27 = true) (h1_ : up b 27 28 = true) => (show w'.heap.size ≠ gs from fun h => by obtain ⟨_, _, _, _, h2⟩ := Q_Fgs h1_; exact absurd (blk_lt h2) (h ▸ Nat.lt_irrefl _))
      refine hK.out _ _ ⟨ga, w'.heap.size, gs, m26_, (.pointer (some ⟨w'.heap.size, 0, none⟩)), m28_, (by rw [ha.out]; exact putSel_upk 27 hb_ rfl rfl rfl), bt HBW.out hbb, fun h0_ => ⟨(Q_Fga h0_).1, (fun ⟨u0, u1, u2, u3, h⟩ => ⟨u0, u1, u2, u3, blk_below h hbb⟩) (Q_Fga h0_).2⟩, fun _ => ⟨HBW.out.size, _, _, _, _, blk_new _ _⟩, fun h0_ => ⟨(Q_Fgs h0_).1, (fun ⟨u0, u1, u2, h⟩ => ⟨u0, u1, u2, blk_below h hbb⟩) (Q_Fgs h0_).2⟩, z_Ngagb, fun h0_ h1_ => (Q_Ngags h0_ h1_), z_Ngbgs, fun h0_ => absurd ((hoff 29 (by kernel_rfl)).symm.trans h0_) (by decide), fun h0_ => absurd ((hoff 30 (by kernel_rfl)).symm.trans h0_) (by decide), fun h0_ => absurd ((hoff 31 (by kernel_rfl)).symm.trans h0_) (by decide), Q_X26_, fun _ => rfl, Q_X28_⟩
    refine steps_cons ?_ ?_
    · rintro b a w' ⟨ga, gb, gs, m26_, m27_, m28_, ha, Q_HBW, Q_Fga, Q_Fgb, Q_Fgs, Q_Ngagb, Q_Ngags, Q_Ngbgs, Q_Sga, Q_Sgb, Q_Sgs, Q_X26_, Q_X27_, Q_X28_⟩ hb_ hon hoff
      refine ⟨_, rfl, fun K hK => ?_⟩
      replace ha := Aside0.mk ha
      have HBW := Aside0.mk Q_HBW
      refine value_ (w1 := w'.alloc (.cells #[.int .i64 0, .int .i64 0, .int .i64 0] 99)) (v := .pointer (some ⟨w'.heap.size, 0, none⟩)) (by rfl) rfl (by go_simp) ?_
      have hbb := b1 w' (.cells #[.int .i64 0, .int .i64 0, .int .i64 0] 99)
      have z_Ngags := fun (h0_ : up b 28 26 = true) (h1_ : up b 28 28 = true) => (show ga ≠ w'.heap.size from fun h => by obtain ⟨_, _, _, _, _, h2⟩ := Q_Fga h0_; exact absurd (blk_lt h2) (h ▸ Nat.lt_irrefl _))
      have z_Ngbgs := fun (h0_ : up b 28 27 = true) (h1_ : up b 28 28 = true) => (show gb ≠ w'.heap.size from fun h => by obtain ⟨_, _, _, _, _, h2⟩ := Q_Fgb h0_; exact absurd (blk_lt h2) (h ▸ Nat.lt_irrefl _))
      refine hK.out _ _ ⟨ga, gb, w'.heap.size, m26_, m27_, (.pointer (some ⟨w'.heap.size, 0, none⟩)), (by rw [ha.out]; exact putSel_upk 28 hb_ rfl rfl rfl), bt HBW.out hbb, fun h0_ => ⟨(Q_Fga h0_).1, (fun ⟨u0, u1, u2, u3, h⟩ => ⟨u0, u1, u2, u3, blk_below h hbb⟩) (Q_Fga h0_).2⟩, fun h0_ => ⟨(Q_Fgb h0_).1, (fun ⟨u0, u1, u2, u3, h⟩ => ⟨u0, u1, u2, u3, blk_below h hbb⟩) (Q_Fgb h0_).2⟩, fun _ => ⟨HBW.out.size, _, _, _, blk_new _ _⟩, fun h0_ h1_ => (Q_Ngagb h0_ h1_), z_Ngags, z_Ngbgs, fun h0_ => absurd ((hoff 29 (by kernel_rfl)).symm.trans h0_) (by decide), fun h0_ => absurd ((hoff 30 (by kernel_rfl)).symm.trans h0_) (by decide), fun h0_ => absurd ((hoff 31 (by kernel_rfl)).symm.trans h0_) (by decide), Q_X26_, Q_X27_, fun _ => rfl⟩
    refine steps_cons ?_ ?_
    · rintro b a w' ⟨ga, gb, gs, m26_, m27_, m28_, ha, Q_HBW, Q_Fga, Q_Fgb, Q_Fgs, Q_Ngagb, Q_Ngags, Q_Ngbgs, Q_Sga, Q_Sgb, Q_Sgs, Q_X26_, Q_X27_, Q_X28_⟩ hb_ hon hoff
      refine ⟨_, rfl, fun K hK => ?_⟩
      have e7 : a.tmps[7]? = some (m26_) := by rw [ha]; exact putSel_on (e := (26, 7, m26_)) 26 rfl rfl (hon 26 (by kernel_rfl)) rfl
      rw [Q_X26_ (hon 26 (by kernel_rfl))] at e7
      have e18 : a.tmps[18]? = some (.agg #[.int .i64 (rd_T85 L.st f).f0, .int .i64 (rd_T85 L.st f).f1, .int .i64 (rd_T85 L.st f).f2, .int .i64 (rd_T85 L.st f).f3]) := by rw [ha]; exact putSel_on (e := (8, 18, .agg #[.int .i64 (rd_T85 L.st f).f0, .int .i64 (rd_T85 L.st f).f1, .int .i64 (rd_T85 L.st f).f2, .int .i64 (rd_T85 L.st f).f3])) 8 rfl rfl (hon 8 (by kernel_rfl)) rfl
      replace ha := Aside0.mk ha
      have HBW := Aside0.mk Q_HBW
      have Fga := Aside0.mk (Q_Fga (hon 26 (by kernel_rfl)))
      have Fgb := Aside0.mk (Q_Fgb (hon 27 (by kernel_rfl)))
      have Fgs := Aside0.mk (Q_Fgs (hon 28 (by kernel_rfl)))
      have Ngagb := Aside0.mk (Q_Ngagb (hon 26 (by kernel_rfl)) (hon 27 (by kernel_rfl)))
      have Ngags := Aside0.mk (Q_Ngags (hon 26 (by kernel_rfl)) (hon 28 (by kernel_rfl)))
      have Ngbgs := Aside0.mk (Q_Ngbgs (hon 27 (by kernel_rfl)) (hon 28 (by kernel_rfl)))
      obtain ⟨hgs_, u0, u1, u2, u3, gk⟩ := Fga.out
      have c0 := (blk_cell (gk) 0).trans rfl
      have f0 := blk_frozen (gk) 0
      have c1 := (blk_cell (blk_set (gk) 0 (.int .i64 (rd_T85 L.st f).f0)) 1).trans rfl
      have f1 := blk_frozen (blk_set (gk) 0 (.int .i64 (rd_T85 L.st f).f0)) 1
      have c2 := (blk_cell (blk_set (blk_set (gk) 0 (.int .i64 (rd_T85 L.st f).f0)) 1 (.int .i64 (rd_T85 L.st f).f1)) 2).trans rfl
      have f2 := blk_frozen (blk_set (blk_set (gk) 0 (.int .i64 (rd_T85 L.st f).f0)) 1 (.int .i64 (rd_T85 L.st f).f1)) 2
      have c3 := (blk_cell (blk_set (blk_set (blk_set (gk) 0 (.int .i64 (rd_T85 L.st f).f0)) 1 (.int .i64 (rd_T85 L.st f).f1)) 2 (.int .i64 (rd_T85 L.st f).f2)) 3).trans rfl
      have f3 := blk_frozen (blk_set (blk_set (blk_set (gk) 0 (.int .i64 (rd_T85 L.st f).f0)) 1 (.int .i64 (rd_T85 L.st f).f1)) 2 (.int .i64 (rd_T85 L.st f).f2)) 3
      have nend := blk_set (blk_set (blk_set (blk_set (gk) 0 (.int .i64 (rd_T85 L.st f).f0)) 1 (.int .i64 (rd_T85 L.st f).f1)) 2 (.int .i64 (rd_T85 L.st f).f2)) 3 (.int .i64 (rd_T85 L.st f).f3)
      refine skip_ (w1 := ((((w'.setCell ⟨ga, 0, none⟩ (.int .i64 (rd_T85 L.st f).f0)).setCell ⟨ga, 1, none⟩ (.int .i64 (rd_T85 L.st f).f1)).setCell ⟨ga, 2, none⟩ (.int .i64 (rd_T85 L.st f).f2)).setCell ⟨ga, 3, none⟩ (.int .i64 (rd_T85 L.st f).f3))) (by rfl) rfl (by go_simp) ?_
      refine hK.out _ _ ⟨ga, gb, gs, m26_, m27_, m28_, (by rw [ha.out]; exact putSel_none (v := undef) rfl), below_set (below_set (below_set (below_set (HBW.out) hgs_) hgs_) hgs_) hgs_, fun _ => ⟨hgs_, _, _, _, _, nend⟩, fun _ => ⟨Fgb.out.1, (fun ⟨u0, u1, u2, u3, h⟩ => ⟨u0, u1, u2, u3, blk_far (blk_far (blk_far (blk_far (h) Ngagb.out.symm _) Ngagb.out.symm _) Ngagb.out.symm _) Ngagb.out.symm _⟩) Fgb.out.2⟩, fun _ => ⟨Fgs.out.1, (fun ⟨u0, u1, u2, h⟩ => ⟨u0, u1, u2, blk_far (blk_far (blk_far (blk_far (h) Ngags.out.symm _) Ngags.out.symm _) Ngags.out.symm _) Ngags.out.symm _⟩) Fgs.out.2⟩, fun _ _ => Ngagb.out, fun _ _ => Ngags.out, fun _ _ => Ngbgs.out, fun _ => nend, fun h0_ => absurd ((hoff 30 (by kernel_rfl)).symm.trans h0_) (by decide), fun h0_ => absurd ((hoff 31 (by kernel_rfl)).symm.trans h0_) (by decide), Q_X26_, Q_X27_, Q_X28_⟩
    refine steps_cons ?_ ?_
    · rintro b a w' ⟨ga, gb, gs, m26_, m27_, m28_, ha, Q_HBW, Q_Fga, Q_Fgb, Q_Fgs, Q_Ngagb, Q_Ngags, Q_Ngbgs, Q_Sga, Q_Sgb, Q_Sgs, Q_X26_, Q_X27_, Q_X28_⟩ hb_ hon hoff
      refine ⟨_, rfl, fun K hK => ?_⟩
      have e8 : a.tmps[8]? = some (m27_) := by rw [ha]; exact putSel_on (e := (27, 8, m27_)) 27 rfl rfl (hon 27 (by kernel_rfl)) rfl
      rw [Q_X27_ (hon 27 (by kernel_rfl))] at e8
      have e27 : a.tmps[27]? = some (.agg #[.int .i64 (rd_T85 L.st t).f0, .int .i64 (rd_T85 L.st t).f1, .int .i64 (rd_T85 L.st t).f2, .int .i64 (rd_T85 L.st t).f3]) := by rw [ha]; exact putSel_on (e := (17, 27, .agg #[.int .i64 (rd_T85 L.st t).f0, .int .i64 (rd_T85 L.st t).f1, .int .i64 (rd_T85 L.st t).f2, .int .i64 (rd_T85 L.st t).f3])) 17 rfl rfl (hon 17 (by kernel_rfl)) rfl
      replace ha := Aside0.mk ha
      have HBW := Aside0.mk Q_HBW
      have Fga := Aside0.mk (Q_Fga (hon 26 (by kernel_rfl)))
      have Fgb := Aside0.mk (Q_Fgb (hon 27 (by kernel_rfl)))
      have Fgs := Aside0.mk (Q_Fgs (hon 28 (by kernel_rfl)))
      have Ngagb := Aside0.mk (Q_Ngagb (hon 26 (by kernel_rfl)) (hon 27 (by kernel_rfl)))
      have Ngags := Aside0.mk (Q_Ngags (hon 26 (by kernel_rfl)) (hon 28 (by kernel_rfl)))
      have Ngbgs := Aside0.mk (Q_Ngbgs (hon 27 (by kernel_rfl)) (hon 28 (by kernel_rfl)))
      have Sga := Aside0.mk (Q_Sga (hon 29 (by kernel_rfl)))
      obtain ⟨hgs_, u0, u1, u2, u3, gk⟩ := Fgb.out
      have c0 := (blk_cell (gk) 0).trans rfl
      have f0 := blk_frozen (gk) 0
      have c1 := (blk_cell (blk_set (gk) 0 (.int .i64 (rd_T85 L.st t).f0)) 1).trans rfl
      have f1 := blk_frozen (blk_set (gk) 0 (.int .i64 (rd_T85 L.st t).f0)) 1
      have c2 := (blk_cell (blk_set (blk_set (gk) 0 (.int .i64 (rd_T85 L.st t).f0)) 1 (.int .i64 (rd_T85 L.st t).f1)) 2).trans rfl
      have f2 := blk_frozen (blk_set (blk_set (gk) 0 (.int .i64 (rd_T85 L.st t).f0)) 1 (.int .i64 (rd_T85 L.st t).f1)) 2
      have c3 := (blk_cell (blk_set (blk_set (blk_set (gk) 0 (.int .i64 (rd_T85 L.st t).f0)) 1 (.int .i64 (rd_T85 L.st t).f1)) 2 (.int .i64 (rd_T85 L.st t).f2)) 3).trans rfl
      have f3 := blk_frozen (blk_set (blk_set (blk_set (gk) 0 (.int .i64 (rd_T85 L.st t).f0)) 1 (.int .i64 (rd_T85 L.st t).f1)) 2 (.int .i64 (rd_T85 L.st t).f2)) 3
      have nend := blk_set (blk_set (blk_set (blk_set (gk) 0 (.int .i64 (rd_T85 L.st t).f0)) 1 (.int .i64 (rd_T85 L.st t).f1)) 2 (.int .i64 (rd_T85 L.st t).f2)) 3 (.int .i64 (rd_T85 L.st t).f3)
      refine skip_ (w1 := ((((w'.setCell ⟨gb, 0, none⟩ (.int .i64 (rd_T85 L.st t).f0)).setCell ⟨gb, 1, none⟩ (.int .i64 (rd_T85 L.st t).f1)).setCell ⟨gb, 2, none⟩ (.int .i64 (rd_T85 L.st t).f2)).setCell ⟨gb, 3, none⟩ (.int .i64 (rd_T85 L.st t).f3))) (by rfl) rfl (by go_simp) ?_
      refine hK.out _ _ ⟨ga, gb, gs, m26_, m27_, m28_, (by rw [ha.out]; exact putSel_none (v := undef) rfl), below_set (below_set (below_set (below_set (HBW.out) hgs_) hgs_) hgs_) hgs_, fun _ => ⟨Fga.out.1, (fun ⟨u0, u1, u2, u3, h⟩ => ⟨u0, u1, u2, u3, blk_far (blk_far (blk_far (blk_far (h) Ngagb.out _) Ngagb.out _) Ngagb.out _) Ngagb.out _⟩) Fga.out.2⟩, fun _ => ⟨hgs_, _, _, _, _, nend⟩, fun _ => ⟨Fgs.out.1, (fun ⟨u0, u1, u2, h⟩ => ⟨u0, u1, u2, blk_far (blk_far (blk_far (blk_far (h) Ngbgs.out.symm _) Ngbgs.out.symm _) Ngbgs.out.symm _) Ngbgs.out.symm _⟩) Fgs.out.2⟩, fun _ _ => Ngagb.out, fun _ _ => Ngags.out, fun _ _ => Ngbgs.out, fun _ => blk_far (blk_far (blk_far (blk_far (Sga.out) Ngagb.out _) Ngagb.out _) Ngagb.out _) Ngagb.out _, fun _ => nend, fun h0_ => absurd ((hoff 31 (by kernel_rfl)).symm.trans h0_) (by decide), Q_X26_, Q_X27_, Q_X28_⟩
    refine steps_cons ?_ ?_
    · rintro b a w' ⟨ga, gb, gs, m26_, m27_, m28_, ha, Q_HBW, Q_Fga, Q_Fgb, Q_Fgs, Q_Ngagb, Q_Ngags, Q_Ngbgs, Q_Sga, Q_Sgb, Q_Sgs, Q_X26_, Q_X27_, Q_X28_⟩ hb_ hon hoff
      refine ⟨_, rfl, fun K hK => ?_⟩
      have e9 : a.tmps[9]? = some (m28_) := by rw [ha]; exact putSel_on (e := (28, 9, m28_)) 28 rfl rfl (hon 28 (by kernel_rfl)) rfl
      rw [Q_X28_ (hon 28 (by kernel_rfl))] at e9
      have e35 : a.tmps[35]? = some (.agg #[.int .i64 (rd_T99 L.su h).f0, .int .i64 (rd_T99 L.su h).f1, .int .i64 (rd_T99 L.su h).f2]) := by rw [ha]; exact putSel_on (e := (25, 35, .agg #[.int .i64 (rd_T99 L.su h).f0, .int .i64 (rd_T99 L.su h).f1, .int .i64 (rd_T99 L.su h).f2])) 25 rfl rfl (hon 25 (by kernel_rfl)) rfl
      replace ha := Aside0.mk ha
      have HBW := Aside0.mk Q_HBW
      have Fga := Aside0.mk (Q_Fga (hon 26 (by kernel_rfl)))
      have Fgb := Aside0.mk (Q_Fgb (hon 27 (by kernel_rfl)))
      have Fgs := Aside0.mk (Q_Fgs (hon 28 (by kernel_rfl)))
      have Ngagb := Aside0.mk (Q_Ngagb (hon 26 (by kernel_rfl)) (hon 27 (by kernel_rfl)))
      have Ngags := Aside0.mk (Q_Ngags (hon 26 (by kernel_rfl)) (hon 28 (by kernel_rfl)))
      have Ngbgs := Aside0.mk (Q_Ngbgs (hon 27 (by kernel_rfl)) (hon 28 (by kernel_rfl)))
      have Sga := Aside0.mk (Q_Sga (hon 29 (by kernel_rfl)))
      have Sgb := Aside0.mk (Q_Sgb (hon 30 (by kernel_rfl)))
      obtain ⟨hgs_, u0, u1, u2, gk⟩ := Fgs.out
      have c0 := (blk_cell (gk) 0).trans rfl
      have f0 := blk_frozen (gk) 0
      have c1 := (blk_cell (blk_set (gk) 0 (.int .i64 (rd_T99 L.su h).f0)) 1).trans rfl
      have f1 := blk_frozen (blk_set (gk) 0 (.int .i64 (rd_T99 L.su h).f0)) 1
      have c2 := (blk_cell (blk_set (blk_set (gk) 0 (.int .i64 (rd_T99 L.su h).f0)) 1 (.int .i64 (rd_T99 L.su h).f1)) 2).trans rfl
      have f2 := blk_frozen (blk_set (blk_set (gk) 0 (.int .i64 (rd_T99 L.su h).f0)) 1 (.int .i64 (rd_T99 L.su h).f1)) 2
      have nend := blk_set (blk_set (blk_set (gk) 0 (.int .i64 (rd_T99 L.su h).f0)) 1 (.int .i64 (rd_T99 L.su h).f1)) 2 (.int .i64 (rd_T99 L.su h).f2)
      refine skip_ (w1 := (((w'.setCell ⟨gs, 0, none⟩ (.int .i64 (rd_T99 L.su h).f0)).setCell ⟨gs, 1, none⟩ (.int .i64 (rd_T99 L.su h).f1)).setCell ⟨gs, 2, none⟩ (.int .i64 (rd_T99 L.su h).f2))) (by rfl) rfl (by go_simp) ?_
      refine hK.out _ _ ⟨ga, gb, gs, m26_, m27_, m28_, (by rw [ha.out]; exact putSel_none (v := undef) rfl), below_set (below_set (below_set (HBW.out) hgs_) hgs_) hgs_, fun _ => ⟨Fga.out.1, (fun ⟨u0, u1, u2, u3, h⟩ => ⟨u0, u1, u2, u3, blk_far (blk_far (blk_far (h) Ngags.out _) Ngags.out _) Ngags.out _⟩) Fga.out.2⟩, fun _ => ⟨Fgb.out.1, (fun ⟨u0, u1, u2, u3, h⟩ => ⟨u0, u1, u2, u3, blk_far (blk_far (blk_far (h) Ngbgs.out _) Ngbgs.out _) Ngbgs.out _⟩) Fgb.out.2⟩, fun _ => ⟨hgs_, _, _, _, nend⟩, fun _ _ => Ngagb.out, fun _ _ => Ngags.out, fun _ _ => Ngbgs.out, fun _ => blk_far (blk_far (blk_far (Sga.out) Ngags.out _) Ngags.out _) Ngags.out _, fun _ => blk_far (blk_far (blk_far (Sgb.out) Ngbgs.out _) Ngbgs.out _) Ngbgs.out _, fun _ => nend, Q_X26_, Q_X27_, Q_X28_⟩
    exact steps_nil
  · rintro b a w' hall ⟨ga, gb, gs, m26_, m27_, m28_, ha, Q_HBW, Q_Fga, Q_Fgb, Q_Fgs, Q_Ngagb, Q_Ngags, Q_Ngbgs, Q_Sga, Q_Sgb, Q_Sgs, Q_X26_, Q_X27_, Q_X28_⟩
    clear HBW
    have hb0_ := hall 0 (by kernel_rfl)
    have hb1_ := hall 1 (by kernel_rfl)
    have hb2_ := hall 2 (by kernel_rfl)
    have hb3_ := hall 3 (by kernel_rfl)
    have hb4_ := hall 4 (by kernel_rfl)
    have hb5_ := hall 5 (by kernel_rfl)
    have hb6_ := hall 6 (by kernel_rfl)
    have hb7_ := hall 7 (by kernel_rfl)
    have hb8_ := hall 8 (by kernel_rfl)
    have hb9_ := hall 9 (by kernel_rfl)
    have hb10_ := hall 10 (by kernel_rfl)
    have hb11_ := hall 11 (by kernel_rfl)
    have hb12_ := hall 12 (by kernel_rfl)
    have hb13_ := hall 13 (by kernel_rfl)
    have hb14_ := hall 14 (by kernel_rfl)
    have hb15_ := hall 15 (by kernel_rfl)
    have hb16_ := hall 16 (by kernel_rfl)
    have hb17_ := hall 17 (by kernel_rfl)
    have hb18_ := hall 18 (by kernel_rfl)
    have hb19_ := hall 19 (by kernel_rfl)
    have hb20_ := hall 20 (by kernel_rfl)
    have hb21_ := hall 21 (by kernel_rfl)
    have hb22_ := hall 22 (by kernel_rfl)
    have hb23_ := hall 23 (by kernel_rfl)
    have hb24_ := hall 24 (by kernel_rfl)
    have hb25_ := hall 25 (by kernel_rfl)
    have hb26_ := hall 26 (by kernel_rfl)
    have hb27_ := hall 27 (by kernel_rfl)
    have hb28_ := hall 28 (by kernel_rfl)
    have hb29_ := hall 29 (by kernel_rfl)
    have hb30_ := hall 30 (by kernel_rfl)
    have hb31_ := hall 31 (by kernel_rfl)
    subst ha
    obtain rfl := Q_X26_ hb26_
    obtain rfl := Q_X27_ hb27_
    obtain rfl := Q_X28_ hb28_
    simp only [putSel, hb0_, hb1_, hb2_, hb3_, hb4_, hb5_, hb6_, hb7_, hb8_, hb9_, hb10_, hb11_, hb12_, hb13_, hb14_, hb15_, hb16_, hb17_, hb18_, hb19_, hb20_, hb21_, hb22_, hb23_, hb24_, hb25_, hb26_, hb27_, hb28_, hb29_, hb30_, hb31_, if_true, Act.put, List.setIfInBounds_toArray, List.set_cons_zero, List.set_cons_succ]
    have HBW := Aside0.mk Q_HBW
    clear Q_HBW
    have Fga := Aside0.mk (Q_Fga hb26_)
    clear Q_Fga
    have Fgb := Aside0.mk (Q_Fgb hb27_)
    clear Q_Fgb
    have Fgs := Aside0.mk (Q_Fgs hb28_)
    clear Q_Fgs
    have Ngagb := Aside0.mk (Q_Ngagb hb26_ hb27_)
    clear Q_Ngagb
    have Ngags := Aside0.mk (Q_Ngags hb26_ hb28_)
    clear Q_Ngags
    have Ngbgs := Aside0.mk (Q_Ngbgs hb27_ hb28_)
    clear Q_Ngbgs
    have Sga := Aside0.mk (Q_Sga hb29_)
    clear Q_Sga
    have Sgb := Aside0.mk (Q_Sgb hb30_)
    clear Q_Sgb
    have Sgs := Aside0.mk (Q_Sgs hb31_)
    clear Q_Sgs
    clear hall hb0_ hb1_ hb2_ hb3_ hb4_ hb5_ hb6_ hb7_ hb8_ hb9_ hb10_ hb11_ hb12_ hb13_ hb14_ hb15_ hb16_ hb17_ hb18_ hb19_ hb20_ hb21_ hb22_ hb23_ hb24_ hb25_ hb26_ hb27_ hb28_ hb29_ hb30_ hb31_
    have ra0 := (blk_cell Sga.out 0).trans rfl
    have ra1 := (blk_cell Sga.out 1).trans rfl
    have rb0 := (blk_cell Sgb.out 0).trans rfl
    have rb1 := (blk_cell Sgb.out 1).trans rfl
    have rs0 := (blk_cell Sgs.out 0).trans rfl
    have rs1 := (blk_cell Sgs.out 1).trans rfl
    obtain ⟨oka, okb, oks⟩ := HO.out
    have q1 := mul_bd (a := (rd_T99 L.su h).f0) (b := (rd_T85 L.st t).f0 - (rd_T85 L.st f).f0) 100 100 oks.1.1 oks.1.2 (by have := oka.1; have := okb.1; omega) (by have := oka.1; have := okb.1; omega)
    have q2 := mul_bd (a := (rd_T99 L.su h).f1) (b := (rd_T85 L.st t).f1 - (rd_T85 L.st f).f1) 100 100 oks.2.1 oks.2.2 (by have := oka.2.1; have := okb.2.1; omega) (by have := oka.2.1; have := okb.2.1; omega)
    have w1 := wr64 (n := (rd_T85 L.st t).f0 - (rd_T85 L.st f).f0) (by have := oka.1; have := okb.1; omega) (by have := oka.1; have := okb.1; omega)
    have w2 := wr64 (n := (rd_T85 L.st t).f1 - (rd_T85 L.st f).f1) (by have := oka.2.1; have := okb.2.1; omega) (by have := oka.2.1; have := okb.2.1; omega)
    have w3 := wr64 (n := (rd_T99 L.su h).f0 * ((rd_T85 L.st t).f0 - (rd_T85 L.st f).f0)) (by omega) (by omega)
    have w4 := wr64 (n := (rd_T99 L.su h).f1 * ((rd_T85 L.st t).f1 - (rd_T85 L.st f).f1)) (by omega) (by omega)
    have w5 := wr64 (n := (rd_T99 L.su h).f0 * ((rd_T85 L.st t).f0 - (rd_T85 L.st f).f0) + (rd_T99 L.su h).f1 * ((rd_T85 L.st t).f1 - (rd_T85 L.st f).f1)) (by omega) (by omega)
    have HD : Aside0 (mirrorsF (rd_T85 L.st f) (rd_T85 L.st t) (rd_T99 L.su h) = if (rd_T99 L.su h).f0 * ((rd_T85 L.st t).f0 - (rd_T85 L.st f).f0) + (rd_T99 L.su h).f1 * ((rd_T85 L.st t).f1 - (rd_T85 L.st f).f1) < 0 then 2 else 1) := ⟨rfl⟩
    clear oka okb oks q1 q2
    go_wp2_with fail
    · go_ret
      exact ⟨by rw [HD.out, if_pos (by assumption)]; rfl, bt hbW.out HBW.out⟩
    · go_ret
      exact ⟨by rw [HD.out, if_neg (by omega)]; rfl, bt hbW.out HBW.out⟩
end Go.Proofs.Ytkbdphjnpieceaa.G
