/- Contract of the exported hill.Walls. Printed by gen_h21.py. -/
import Derived.Test.YtkbdphjnpieceaaH20
namespace Go.Proofs.Ytkbdphjnpieceaa.G
open Go.RowKit Go.Proofs.YtkbdphjnpieceaaW.PrintWords Go.Proofs.YtkbdphjnpieceaaW.PrintLast Go.Proofs.YtkbdphjnpieceaaW.PrintMore
open Go.Sort (grow)
set_option linter.unusedVariables false
set_option linter.unusedSimpArgs false

def walls.T8 : Bool × List (List Nat × List Nat) := (true, [([], []), ([], []), ([0, 1], [0, 1]), ([2, 2], [2]), ([], []), ([], []), ([], []), ([], []), ([4, 5, 6, 7, 3], [4, 5, 6, 7]), ([8, 8], [8]), ([3, 9, 0, 1, 2, 3], [3]), ([9, 10, 0, 1, 2, 3, 4, 5, 6, 7, 8, 9, 10], [9]), ([11, 0, 1, 2, 3, 4, 5, 6, 7, 8, 9, 10, 11], [])])
def walls.B8 : List Nat := [0, 0, 3, 7, 0, 0, 0, 0, 255, 511, 1023, 2047, 4095]
theorem walls.tab8 : rtab .any (opsOf Try.f37 8) = walls.T8 := by kernel_rfl
theorem walls.bits8 : waitsOk walls.T8.2 walls.B8 = true := by kernel_rfl
/-- hill.Walls. -/
def wallsE (L : Lv) (f t k h : Int) : List Int × List Int × Int := if L.check ≠ 0 then ([], [], L.check) else if L.ask f t k h ≠ 0 then ([], [], L.ask f t k h) else (ridgesL L f t, cloudsL L f t k h, 0)
theorem clK_len (L : Lv) (f t k h : Int) (m : Nat) : (clK L f t k h m).length ≤ m := by
  unfold clK
  exact Nat.le_trans (List.length_filter_le _ _) (by simp)
set_option maxRecDepth 100000 in
set_option maxHeartbeats 2000000 in
theorem Walls_c (L : Lv) (f t k h : Int) (w : World) (hI : L.In w) :
    Calls Try.prog 37 #[.agg #[.slice L.A0 L.st.length L.c0, .slice L.A1 L.ri.length L.c1, .slice L.A2 L.ca.length L.c2, .slice L.A3 L.su.length L.c3], .int .i64 f, .int .i64 t, .int .i64 k, .int .i64 h] w
      fun e w' => ∃ v1 v2 : Value, e = .returned (.tuple #[v1, v2, .int .i64 (wallsE L f t k h).2.2]) ∧ Kd.R (Kd.int .i64) 3 w' w.heap.size (fun _ => True) v1 (wallsE L f t k h).1 ∧ Kd.R (Kd.int .i64) 3 w' w.heap.size (fun q => True ∧ some q ≠ v1.ownBlock) v2 (wallsE L f t k h).2.1 ∧ Below w.heap.size w w' := by
  have HI := Aside0.mk hI
  have hl0 := hI.r0.2.1
  have hl2 := hI.r2.2.1
  have hl3 := hI.r3.2.1
  clear hI
  have HE : Aside0 (wallsE L f t k h = if L.check ≠ 0 then ([], [], L.check) else if L.ask f t k h ≠ 0 then ([], [], L.ask f t k h) else (ridgesL L f t, cloudsL L f t k h, 0)) := ⟨rfl⟩
  go_enter Try.func37, Try.ntmps37
  go_wp2_with fail
  refine (work_c L _ (HI.out.below (b1 _ _))).mono ?_
  rintro e w1 ⟨hb1, ⟨hk, rfl⟩ | ⟨hk, g, mb, rfl, hg, hm, hW⟩⟩
  · have HB := Aside0.mk (bt (b1 _ _) hb1)
    have HK := Aside0.mk hk
    generalize L.check = c at *
    go_wp2_with fail
    ((try simp only [Exit.inBlock, Exit.then]); refine bodyPost_ret (results_tmp3 rfl _ _ _) rfl ?_)
    exact ⟨.slice none 0 0, .slice none 0 0, by rw [HE.out, if_pos HK.out]; rfl, by rw [HE.out, if_pos HK.out]; exact Kd.R_nil _ _ _ _ _, by rw [HE.out, if_pos HK.out]; exact Kd.R_nil _ _ _ _ _, HB.out⟩
  · have HK := Aside0.mk hk
    have HB := Aside0.mk (bt (b1 w (.cells #[.slice L.A0 L.st.length L.c0, .slice L.A1 L.ri.length L.c1, .slice L.A2 L.ca.length L.c2, .slice L.A3 L.su.length L.c3] 39)) hb1)
    have d0 := cb hb1 (cnew (w := w) (cs := #[.slice L.A0 L.st.length L.c0, .slice L.A1 L.ri.length L.c1, .slice L.A2 L.ca.length L.c2, .slice L.A3 L.su.length L.c3]) (t := 39) (i := 0) rfl rfl)
    have d1 := cb hb1 (cnew (w := w) (cs := #[.slice L.A0 L.st.length L.c0, .slice L.A1 L.ri.length L.c1, .slice L.A2 L.ca.length L.c2, .slice L.A3 L.su.length L.c3]) (t := 39) (i := 1) rfl rfl)
    have d2 := cb hb1 (cnew (w := w) (cs := #[.slice L.A0 L.st.length L.c0, .slice L.A1 L.ri.length L.c1, .slice L.A2 L.ca.length L.c2, .slice L.A3 L.su.length L.c3]) (t := 39) (i := 2) rfl rfl)
    have d3 := cb hb1 (cnew (w := w) (cs := #[.slice L.A0 L.st.length L.c0, .slice L.A1 L.ri.length L.c1, .slice L.A2 L.ca.length L.c2, .slice L.A3 L.su.length L.c3]) (t := 39) (i := 3) rfl rfl)
    have HD := Aside0.mk (And.intro d0 (And.intro d1 (And.intro d2 d3)))
    simp only [World.size_alloc] at hg hm
    have HW := Aside0.mk hW
    have hsz := hb1.size
    simp only [World.size_alloc] at hsz
    clear hb1 hk hW
    have hne : w.heap.size ≠ w1.heap.size := by omega
    have hlt : w.heap.size < w1.heap.size := by omega
    go_wp2_with fail
    have HA : Aside0 (L.ask f t k h = askF L.st.length L.ca.length L.su.length f t k h) := ⟨rfl⟩
    refine (asked_c L.A0 L.A1 L.A2 L.A3 _ _ _ _ L.c0 L.c1 L.c2 L.c3 hl0 hl2 hl3 f t k h _).mono ?_
    rintro e w2 ⟨rfl, hb2⟩
    by_cases hak : askF L.st.length L.ca.length L.su.length f t k h = 0
    · have hp := blk_below (blk_new w1 (.cells #[.int .i64 f, .int .i64 t] 95)) hb2
      have p0 := (blk_cell hp 0).trans rfl
      have p1 := (blk_cell hp 1).trans rfl
      have hb3 := bt (b1 w1 (.cells #[.int .i64 f, .int .i64 t] 95)) hb2
      have HB3 := Aside0.mk hb3
      have HAK := Aside0.mk (And.intro hak (ask_ok hak))
      have HQ := Aside0.mk (And.intro p0 p1)
      clear hb2 hp hb3
      rw [hak]
      clear hak
      obtain ⟨hak, ⟨⟨a1, a2⟩, ⟨a3, a4⟩, ⟨a5, a6⟩, a7, a8⟩, a9⟩ := HAK.out
      have HE' : Aside0 (wallsE L f t k h = (ridgesL L f t, cloudsL L f t k h, 0)) := ⟨by rw [HE.out, if_neg (by rw [HK.out]; decide), if_neg (by rw [HA.out, HAK.out.1]; decide)]⟩
      have HOK := Aside0.mk (Lv.ok_of HK.out)
      have HMB : Aside0 (mb < w1.heap.size) := ⟨blk_lt HW.out.mbmap.choose_spec.choose_spec⟩
      have HNE : Aside0 (some w1.heap.size ≠ some mb) := ⟨fun e => by injection e with e; have := HMB.out; omega⟩
      have HLEN : Aside0 ((ridgesL L f t).length ≤ 1000 ∧ (cloudsL L f t k h).length ≤ 1000) := ⟨by
        have h1 := ridK_len L f t L.ri.length
        have h2 := HOK.out.ri6
        have h3 := clK_len L f t k h (rd_L9 L.ca k).length
        have h4 := HOK.out.cl4 k
        exact ⟨Nat.le_trans h1 (by omega), Nat.le_trans h3 (by omega)⟩⟩
      have AR := Aside0.mk fun W (hb : Below w2.heap.size w2 W) => ridges_c L g mb 0 f t W (N := fun _ => True) (fun _ _ => trivial) (HW.out.below (bt HB3.out hb)) (by decide) a1 a2 a3 a4 HOK.out.ri6 HOK.out.st6 (HOK.out.st f a1 a2) (HOK.out.st t a3 a4) HOK.out.ri
      clear d0 d1 d2 d3
      go_wp2_with fail
      clear p0 p1
      refine start_ (n := 13) (S := fun w' => True) (ds := []) #[false, false, false, false, false, false, false, false, false, false, false, false, false] (by kernel_rfl) rfl rfl trivial (fun hHeld => ?_)
      refine with_tabW walls.tab8 walls.bits8 (fun HT_ HW_ => ?_)
      have HBW := Aside0.mk (below_drew (Below.refl w2.heap.size w2))
      have HQ1 := HQ
      replace HQ : Aside0 (w2.drew.cell? ⟨w1.heap.size, 0, none⟩ = some (.int .i64 f) ∧ w2.drew.cell? ⟨w1.heap.size, 1, none⟩ = some (.int .i64 t)) := ⟨HQ1.out⟩
      generalize w2.drew = W1 at HBW HQ ⊢
      refine inv_at [0, 1, 2, 3, 4, 5, 6, 7, 8, 9, 10, 11, 12] (fun a0_ b a w' => ∃ (A : Option Addr) (c : Nat) (v1 : Value) (v2 : Value) (nc : Nat) (m2_ : Value) (m8_ : Value) (m10_ : Value) (m11_ : Value), a = putSel a0_ b [(0, 35, .pointer (some ⟨g, 0, none⟩)), (1, 36, .agg #[.int .i64 f, .int .i64 t]), (2, 37, m2_), (3, 38, v1), (4, 39, .pointer (some ⟨g, 0, none⟩)), (5, 40, .agg #[.int .i64 f, .int .i64 t]), (6, 41, .int .i64 k), (7, 42, .int .i64 h), (8, 43, m8_), (9, 44, v2), (10, 10, m10_), (11, 11, m11_), (12, 12, .int .i64 0)] ∧ (w'.cell? ⟨w1.heap.size, 0, none⟩ = some (.int .i64 f) ∧ w'.cell? ⟨w1.heap.size, 1, none⟩ = some (.int .i64 t)) ∧ (b 2 = false → Below w2.heap.size w2 w') ∧ (b 2 = true → Wk L g mb 1 (fun _ => True) w' ∧ w2.grownBy w' (some mb)) ∧ (b 2 = true → Kd.C (Kd.int .i64) w' A (ridgesL L f t).length (ridgesL L f t)) ∧ (b 3 = true → Kd.R (Kd.int .i64) 3 w' w.heap.size (fun _ => True) v1 (ridgesL L f t)) ∧ (b 8 = true → b 9 = false → SeqStopsK Fence.wide 2 Try.prog 94 #[.pointer (some ⟨nc, 0, none⟩), .pointer (some ⟨nc + 2, 0, none⟩), .pointer (some ⟨nc + 3, 0, none⟩), .pointer (some ⟨nc + 1, 0, none⟩)] (fun x : Int => #[.int .i64 x]) (Below w'.heap.size) (fun xs => xs = (cloudsL L f t k h)) (fun pre => pre <+: (cloudsL L f t k h)) (cloudsL L f t k h).length w') ∧ (b 9 = true → Kd.R (Kd.int .i64) 3 w' w.heap.size (fun q => True ∧ some q ≠ v1.ownBlock) v2 (cloudsL L f t k h)) ∧ (b 2 = true → (m2_ : Value) = .slice A (ridgesL L f t).length c) ∧ (b 8 = true → (m8_ : Value) = .func (.func 94) #[] #[.pointer (some ⟨nc, 0, none⟩), .pointer (some ⟨nc + 2, 0, none⟩), .pointer (some ⟨nc + 3, 0, none⟩), .pointer (some ⟨nc + 1, 0, none⟩)]) ∧ (b 10 = true → (m10_ : Value) = v1) ∧ (b 11 = true → (m11_ : Value) = v2)) HT_.out HW_.out (by kernel_rfl) (by kernel_rfl) ?_ ?_ ?_
      · exact ⟨none, 0, .bool false, .bool false, 0, .bool false, .bool false, .bool false, .bool false, by simp only [putSel, Bool.false_eq_true, if_false], HQ.out, fun _ => HBW.out, fun h_ => absurd h_ (by decide), fun h_ => absurd h_ (by decide), fun h_ => absurd h_ (by decide), fun h_ => absurd h_ (by decide), fun h_ => absurd h_ (by decide), fun h_ => absurd h_ (by decide), fun h_ => absurd h_ (by decide), fun h_ => absurd h_ (by decide), fun h_ => absurd h_ (by decide)⟩
      · skip
        clear HBW HQ
        refine steps_cons ?_ ?_
        · rintro b a w' ⟨A, c, v1, v2, nc, m2_, m8_, m10_, m11_, ha, Q_HQ, Q_HBW, Q_GW, Q_RC, Q_R1, Q_SQ, Q_R2, Q_X2_, Q_X8_, Q_X10_, Q_X11_⟩ hb_ hon hoff
          refine ⟨_, rfl, fun K hK => ?_⟩
          have e13 : a.tmps[13]? = some (.pointer (some ⟨g, 0, none⟩)) := by rw [ha]; exact (putSel_off rfl).trans rfl
          replace ha := Aside0.mk ha
          have HQ := Aside0.mk Q_HQ
          have HBW := Aside0.mk (Q_HBW (hoff 2 (by kernel_rfl)))
          refine value_ (w1 := w') (v := .pointer (some ⟨g, 0, none⟩)) (by rfl) rfl ?_ ?_
          · go_simp
            (try simp only [i64_w])
            try rfl
          refine hK.out _ _ ⟨A, c, v1, v2, nc, m2_, m8_, m10_, m11_, (by rw [ha.out]; exact putSel_upk 0 hb_ rfl rfl rfl), Q_HQ, Q_HBW, fun h0_ => absurd ((hoff 2 (by kernel_rfl)).symm.trans h0_) (by decide), fun h0_ => absurd ((hoff 2 (by kernel_rfl)).symm.trans h0_) (by decide), fun h0_ => absurd ((hoff 3 (by kernel_rfl)).symm.trans h0_) (by decide), fun h0_ _ => absurd ((hoff 8 (by kernel_rfl)).symm.trans h0_) (by decide), fun h0_ => absurd ((hoff 9 (by kernel_rfl)).symm.trans h0_) (by decide), fun h0_ => absurd ((hoff 2 (by kernel_rfl)).symm.trans h0_) (by decide), fun h0_ => absurd ((hoff 8 (by kernel_rfl)).symm.trans h0_) (by decide), fun h0_ => absurd ((hoff 10 (by kernel_rfl)).symm.trans h0_) (by decide), fun h0_ => absurd ((hoff 11 (by kernel_rfl)).symm.trans h0_) (by decide)⟩
        refine steps_cons ?_ ?_
        · rintro b a w' ⟨A, c, v1, v2, nc, m2_, m8_, m10_, m11_, ha, Q_HQ, Q_HBW, Q_GW, Q_RC, Q_R1, Q_SQ, Q_R2, Q_X2_, Q_X8_, Q_X10_, Q_X11_⟩ hb_ hon hoff
          refine ⟨_, rfl, fun K hK => ?_⟩
          have e14 : a.tmps[14]? = some (.pointer (some ⟨w1.heap.size, 0, none⟩)) := by rw [ha]; exact (putSel_off rfl).trans rfl
          replace ha := Aside0.mk ha
          have HQ := Aside0.mk Q_HQ
          have HBW := Aside0.mk (Q_HBW (hoff 2 (by kernel_rfl)))
          have k_ := HQ.out.1
          have k2_ := HQ.out.2
          refine value_ (w1 := w') (v := .agg #[.int .i64 f, .int .i64 t]) (by rfl) rfl ?_ ?_
          · go_simp
            (try simp only [i64_w])
            try rfl
          refine hK.out _ _ ⟨A, c, v1, v2, nc, m2_, m8_, m10_, m11_, (by rw [ha.out]; exact putSel_upk 1 hb_ rfl rfl rfl), Q_HQ, Q_HBW, fun h0_ => absurd ((hoff 2 (by kernel_rfl)).symm.trans h0_) (by decide), fun h0_ => absurd ((hoff 2 (by kernel_rfl)).symm.trans h0_) (by decide), fun h0_ => absurd ((hoff 3 (by kernel_rfl)).symm.trans h0_) (by decide), fun h0_ _ => absurd ((hoff 8 (by kernel_rfl)).symm.trans h0_) (by decide), fun h0_ => absurd ((hoff 9 (by kernel_rfl)).symm.trans h0_) (by decide), fun h0_ => absurd ((hoff 2 (by kernel_rfl)).symm.trans h0_) (by decide), fun h0_ => absurd ((hoff 8 (by kernel_rfl)).symm.trans h0_) (by decide), fun h0_ => absurd ((hoff 10 (by kernel_rfl)).symm.trans h0_) (by decide), fun h0_ => absurd ((hoff 11 (by kernel_rfl)).symm.trans h0_) (by decide)⟩
        refine steps_cons ?_ ?_
        · rintro b a w' ⟨A, c, v1, v2, nc, m2_, m8_, m10_, m11_, ha, Q_HQ, Q_HBW, Q_GW, Q_RC, Q_R1, Q_SQ, Q_R2, Q_X2_, Q_X8_, Q_X10_, Q_X11_⟩ hb_ hon hoff
          refine ⟨_, rfl, fun K hK => ?_⟩
          have e35 : a.tmps[35]? = some (.pointer (some ⟨g, 0, none⟩)) := by rw [ha]; exact putSel_on (e := (0, 35, .pointer (some ⟨g, 0, none⟩))) 0 rfl rfl (hon 0 (by kernel_rfl)) rfl
          have e36 : a.tmps[36]? = some (.agg #[.int .i64 f, .int .i64 t]) := by rw [ha]; exact putSel_on (e := (1, 36, .agg #[.int .i64 f, .int .i64 t])) 1 rfl rfl (hon 1 (by kernel_rfl)) rfl
          replace ha := Aside0.mk ha
          have HQ := Aside0.mk Q_HQ
          have HBW := Aside0.mk (Q_HBW hb_)
          refine call_ 62 #[.pointer (some ⟨g, 0, none⟩), .agg #[.int .i64 f, .int .i64 t]] (by rfl) rfl (by go_simp) ?_
          refine (AR.out _ HBW.out).mono ?_
          rintro e w3 ⟨A', c', rfl, hC3, hN3, hW3, hg3⟩
          refine ⟨_, rfl, ?_⟩
          have hgw := (grown_of_below HBW.out (some mb)).trans hg3
          refine hK.out _ _ ⟨A', c', v1, v2, nc, (.slice A' (ridgesL L f t).length c'), m8_, m10_, m11_, (by rw [ha.out]; exact putSel_upk 2 hb_ rfl rfl rfl), ⟨hgw.cell HQ1.out.1 HNE.out, hgw.cell HQ1.out.2 HNE.out⟩, fun h0_ => absurd ((up_self b 2).symm.trans h0_) (by decide), fun _ => ⟨hW3, hgw⟩, fun _ => hC3, fun h0_ => absurd ((hoff 3 (by kernel_rfl)).symm.trans h0_) (by decide), fun h0_ _ => absurd ((hoff 8 (by kernel_rfl)).symm.trans h0_) (by decide), fun h0_ => absurd ((hoff 9 (by kernel_rfl)).symm.trans h0_) (by decide), fun _ => rfl, fun h0_ => absurd ((hoff 8 (by kernel_rfl)).symm.trans h0_) (by decide), fun h0_ => absurd ((hoff 10 (by kernel_rfl)).symm.trans h0_) (by decide), fun h0_ => absurd ((hoff 11 (by kernel_rfl)).symm.trans h0_) (by decide)⟩
        refine steps_cons ?_ ?_
        · rintro b a w' ⟨A, c, v1, v2, nc, m2_, m8_, m10_, m11_, ha, Q_HQ, Q_HBW, Q_GW, Q_RC, Q_R1, Q_SQ, Q_R2, Q_X2_, Q_X8_, Q_X10_, Q_X11_⟩ hb_ hon hoff
          refine ⟨_, rfl, fun K hK => ?_⟩
          have e37 : a.tmps[37]? = some (m2_) := by rw [ha]; exact putSel_on (e := (2, 37, m2_)) 2 rfl rfl (hon 2 (by kernel_rfl)) rfl
          rw [Q_X2_ (hon 2 (by kernel_rfl))] at e37
          replace ha := Aside0.mk ha
          have HQ := Aside0.mk Q_HQ
          have GW := Aside0.mk (Q_GW (hon 2 (by kernel_rfl)))
          have RC := Aside0.mk (Q_RC (hon 2 (by kernel_rfl)))
          refine call_ 61 #[.slice A (ridgesL L f t).length c] (by rfl) rfl (by go_simp) ?_
          refine (clone_c A c _ _ RC.out HLEN.out.1).mono ?_
          rintro e w3 ⟨vv, rfl, hR3, hbb⟩
          refine ⟨_, rfl, ?_⟩
          refine hK.out _ _ ⟨A, c, vv, v2, nc, m2_, m8_, m10_, m11_, (by rw [ha.out]; exact putSel_upk 3 hb_ rfl rfl rfl), ⟨cb hbb HQ.out.1, cb hbb HQ.out.2⟩, fun h0_ => absurd ((hon 2 (by kernel_rfl)).symm.trans h0_) (by decide), fun _ => ⟨GW.out.1.below hbb, GW.out.2.trans (grown_of_below hbb _)⟩, fun _ => Kd.C_below RC.out hbb, fun _ => Kd.R_lower hR3 (Nat.le_trans HB.out.size (Nat.le_trans HB3.out.size GW.out.2.size)), fun h0_ _ => absurd ((hoff 8 (by kernel_rfl)).symm.trans h0_) (by decide), fun h0_ => absurd ((hoff 9 (by kernel_rfl)).symm.trans h0_) (by decide), Q_X2_, fun h0_ => absurd ((hoff 8 (by kernel_rfl)).symm.trans h0_) (by decide), fun h0_ => absurd ((hoff 10 (by kernel_rfl)).symm.trans h0_) (by decide), fun h0_ => absurd ((hoff 11 (by kernel_rfl)).symm.trans h0_) (by decide)⟩
        refine steps_cons ?_ ?_
        · rintro b a w' ⟨A, c, v1, v2, nc, m2_, m8_, m10_, m11_, ha, Q_HQ, Q_HBW, Q_GW, Q_RC, Q_R1, Q_SQ, Q_R2, Q_X2_, Q_X8_, Q_X10_, Q_X11_⟩ hb_ hon hoff
          refine ⟨_, rfl, fun K hK => ?_⟩
          have e13 : a.tmps[13]? = some (.pointer (some ⟨g, 0, none⟩)) := by rw [ha]; exact (putSel_off rfl).trans rfl
          replace ha := Aside0.mk ha
          have HQ := Aside0.mk Q_HQ
          refine value_ (w1 := w') (v := .pointer (some ⟨g, 0, none⟩)) (by rfl) rfl ?_ ?_
          · go_simp
            (try simp only [i64_w])
            try rfl
          refine hK.out _ _ ⟨A, c, v1, v2, nc, m2_, m8_, m10_, m11_, (by rw [ha.out]; exact putSel_upk 4 hb_ rfl rfl rfl), Q_HQ, Q_HBW, Q_GW, Q_RC, Q_R1, fun h0_ _ => absurd ((hoff 8 (by kernel_rfl)).symm.trans h0_) (by decide), fun h0_ => absurd ((hoff 9 (by kernel_rfl)).symm.trans h0_) (by decide), Q_X2_, fun h0_ => absurd ((hoff 8 (by kernel_rfl)).symm.trans h0_) (by decide), fun h0_ => absurd ((hoff 10 (by kernel_rfl)).symm.trans h0_) (by decide), fun h0_ => absurd ((hoff 11 (by kernel_rfl)).symm.trans h0_) (by decide)⟩
        refine steps_cons ?_ ?_
        · rintro b a w' ⟨A, c, v1, v2, nc, m2_, m8_, m10_, m11_, ha, Q_HQ, Q_HBW, Q_GW, Q_RC, Q_R1, Q_SQ, Q_R2, Q_X2_, Q_X8_, Q_X10_, Q_X11_⟩ hb_ hon hoff
          refine ⟨_, rfl, fun K hK => ?_⟩
          have e14 : a.tmps[14]? = some (.pointer (some ⟨w1.heap.size, 0, none⟩)) := by rw [ha]; exact (putSel_off rfl).trans rfl
          replace ha := Aside0.mk ha
          have HQ := Aside0.mk Q_HQ
          have k_ := HQ.out.1
          have k2_ := HQ.out.2
          refine value_ (w1 := w') (v := .agg #[.int .i64 f, .int .i64 t]) (by rfl) rfl ?_ ?_
          · go_simp
            (try simp only [i64_w])
            try rfl
          refine hK.out _ _ ⟨A, c, v1, v2, nc, m2_, m8_, m10_, m11_, (by rw [ha.out]; exact putSel_upk 5 hb_ rfl rfl rfl), Q_HQ, Q_HBW, Q_GW, Q_RC, Q_R1, fun h0_ _ => absurd ((hoff 8 (by kernel_rfl)).symm.trans h0_) (by decide), fun h0_ => absurd ((hoff 9 (by kernel_rfl)).symm.trans h0_) (by decide), Q_X2_, fun h0_ => absurd ((hoff 8 (by kernel_rfl)).symm.trans h0_) (by decide), fun h0_ => absurd ((hoff 10 (by kernel_rfl)).symm.trans h0_) (by decide), fun h0_ => absurd ((hoff 11 (by kernel_rfl)).symm.trans h0_) (by decide)⟩
        refine steps_cons ?_ ?_
        · rintro b a w' ⟨A, c, v1, v2, nc, m2_, m8_, m10_, m11_, ha, Q_HQ, Q_HBW, Q_GW, Q_RC, Q_R1, Q_SQ, Q_R2, Q_X2_, Q_X8_, Q_X10_, Q_X11_⟩ hb_ hon hoff
          refine ⟨_, rfl, fun K hK => ?_⟩
          have e3 : a.tmps[3]? = some (.int .i64 k) := by rw [ha]; exact (putSel_off rfl).trans rfl
          replace ha := Aside0.mk ha
          have HQ := Aside0.mk Q_HQ
          refine value_ (w1 := w') (v := .int .i64 k) (by rfl) rfl ?_ ?_
          · go_simp
            (try simp only [i64_w])
            try rfl
          refine hK.out _ _ ⟨A, c, v1, v2, nc, m2_, m8_, m10_, m11_, (by rw [ha.out]; exact putSel_upk 6 hb_ rfl rfl rfl), Q_HQ, Q_HBW, Q_GW, Q_RC, Q_R1, fun h0_ _ => absurd ((hoff 8 (by kernel_rfl)).symm.trans h0_) (by decide), fun h0_ => absurd ((hoff 9 (by kernel_rfl)).symm.trans h0_) (by decide), Q_X2_, fun h0_ => absurd ((hoff 8 (by kernel_rfl)).symm.trans h0_) (by decide), fun h0_ => absurd ((hoff 10 (by kernel_rfl)).symm.trans h0_) (by decide), fun h0_ => absurd ((hoff 11 (by kernel_rfl)).symm.trans h0_) (by decide)⟩
        refine steps_cons ?_ ?_
        · rintro b a w' ⟨A, c, v1, v2, nc, m2_, m8_, m10_, m11_, ha, Q_HQ, Q_HBW, Q_GW, Q_RC, Q_R1, Q_SQ, Q_R2, Q_X2_, Q_X8_, Q_X10_, Q_X11_⟩ hb_ hon hoff
          refine ⟨_, rfl, fun K hK => ?_⟩
          have e4 : a.tmps[4]? = some (.int .i64 h) := by rw [ha]; exact (putSel_off rfl).trans rfl
          replace ha := Aside0.mk ha
          have HQ := Aside0.mk Q_HQ
          refine value_ (w1 := w') (v := .int .i64 h) (by rfl) rfl ?_ ?_
          · go_simp
            (try simp only [i64_w])
            try rfl
          refine hK.out _ _ ⟨A, c, v1, v2, nc, m2_, m8_, m10_, m11_, (by rw [ha.out]; exact putSel_upk 7 hb_ rfl rfl rfl), Q_HQ, Q_HBW, Q_GW, Q_RC, Q_R1, fun h0_ _ => absurd ((hoff 8 (by kernel_rfl)).symm.trans h0_) (by decide), fun h0_ => absurd ((hoff 9 (by kernel_rfl)).symm.trans h0_) (by decide), Q_X2_, fun h0_ => absurd ((hoff 8 (by kernel_rfl)).symm.trans h0_) (by decide), fun h0_ => absurd ((hoff 10 (by kernel_rfl)).symm.trans h0_) (by decide), fun h0_ => absurd ((hoff 11 (by kernel_rfl)).symm.trans h0_) (by decide)⟩
        refine steps_cons ?_ ?_
        · rintro b a w' ⟨A, c, v1, v2, nc, m2_, m8_, m10_, m11_, ha, Q_HQ, Q_HBW, Q_GW, Q_RC, Q_R1, Q_SQ, Q_R2, Q_X2_, Q_X8_, Q_X10_, Q_X11_⟩ hb_ hon hoff
          refine ⟨_, rfl, fun K hK => ?_⟩
          have e39 : a.tmps[39]? = some (.pointer (some ⟨g, 0, none⟩)) := by rw [ha]; exact putSel_on (e := (4, 39, .pointer (some ⟨g, 0, none⟩))) 4 rfl rfl (hon 4 (by kernel_rfl)) rfl
          have e40 : a.tmps[40]? = some (.agg #[.int .i64 f, .int .i64 t]) := by rw [ha]; exact putSel_on (e := (5, 40, .agg #[.int .i64 f, .int .i64 t])) 5 rfl rfl (hon 5 (by kernel_rfl)) rfl
          have e41 : a.tmps[41]? = some (.int .i64 k) := by rw [ha]; exact putSel_on (e := (6, 41, .int .i64 k)) 6 rfl rfl (hon 6 (by kernel_rfl)) rfl
          have e42 : a.tmps[42]? = some (.int .i64 h) := by rw [ha]; exact putSel_on (e := (7, 42, .int .i64 h)) 7 rfl rfl (hon 7 (by kernel_rfl)) rfl
          replace ha := Aside0.mk ha
          have HQ := Aside0.mk Q_HQ
          have GW := Aside0.mk (Q_GW (hon 2 (by kernel_rfl)))
          have RC := Aside0.mk (Q_RC (hon 2 (by kernel_rfl)))
          have R1 := Aside0.mk (Q_R1 (hon 3 (by kernel_rfl)))
          refine call_ 64 #[.pointer (some ⟨g, 0, none⟩), .agg #[.int .i64 f, .int .i64 t], .int .i64 k, .int .i64 h] (by rfl) rfl (by go_simp) ?_
          refine (clouds_c g f t k h _).mono ?_
          rintro e w3 ⟨rfl, hbb, q1, q2, q3, q4, q5⟩
          refine ⟨_, rfl, ?_⟩
          refine hK.out _ _ ⟨A, c, v1, v2, w'.heap.size, m2_, (.func (.func 94) #[] #[.pointer (some ⟨w'.heap.size, 0, none⟩), .pointer (some ⟨w'.heap.size + 2, 0, none⟩), .pointer (some ⟨w'.heap.size + 3, 0, none⟩), .pointer (some ⟨w'.heap.size + 1, 0, none⟩)]), m10_, m11_, (by rw [ha.out]; exact putSel_upk 8 hb_ rfl rfl rfl), ⟨cb hbb HQ.out.1, cb hbb HQ.out.2⟩, fun h0_ => absurd ((hon 2 (by kernel_rfl)).symm.trans h0_) (by decide), fun _ => ⟨GW.out.1.below hbb, GW.out.2.trans (grown_of_below hbb _)⟩, fun _ => Kd.C_below RC.out hbb, fun _ => Kd.R_below R1.out hbb, fun _ _ => clouds_stops 1 L g mb 1 f t k h _ _ _ _ w3 (GW.out.1.below hbb) q1 q2 q3 q4 q5 a1 a2 a3 a4 a5 a6 (HOK.out.st f a1 a2) (HOK.out.st t a3 a4) (HOK.out.cl k) (HOK.out.cl4 k), fun h0_ => absurd ((hoff 9 (by kernel_rfl)).symm.trans h0_) (by decide), Q_X2_, fun _ => rfl, fun h0_ => absurd ((hoff 10 (by kernel_rfl)).symm.trans h0_) (by decide), fun h0_ => absurd ((hoff 11 (by kernel_rfl)).symm.trans h0_) (by decide)⟩
        refine steps_cons ?_ ?_
        · rintro b a w' ⟨A, c, v1, v2, nc, m2_, m8_, m10_, m11_, ha, Q_HQ, Q_HBW, Q_GW, Q_RC, Q_R1, Q_SQ, Q_R2, Q_X2_, Q_X8_, Q_X10_, Q_X11_⟩ hb_ hon hoff
          refine ⟨_, rfl, fun K hK => ?_⟩
          have e43 : a.tmps[43]? = some (m8_) := by rw [ha]; exact putSel_on (e := (8, 43, m8_)) 8 rfl rfl (hon 8 (by kernel_rfl)) rfl
          rw [Q_X8_ (hon 8 (by kernel_rfl))] at e43
          replace ha := Aside0.mk ha
          have HQ := Aside0.mk Q_HQ
          have GW := Aside0.mk (Q_GW (hon 2 (by kernel_rfl)))
          have RC := Aside0.mk (Q_RC (hon 2 (by kernel_rfl)))
          have R1 := Aside0.mk (Q_R1 (hon 3 (by kernel_rfl)))
          have SQ := Aside0.mk (Q_SQ (hon 8 (by kernel_rfl)) hb_)
          refine call_ 63 #[.func (.func 94) #[] #[.pointer (some ⟨nc, 0, none⟩), .pointer (some ⟨nc + 2, 0, none⟩), .pointer (some ⟨nc + 3, 0, none⟩), .pointer (some ⟨nc + 1, 0, none⟩)]] (by rfl) rfl (by go_simp) ?_
          refine (collect_c 94 (enters_of Try.func94 (by kernel_rfl) rfl) _ _ HLEN.out.2 _ SQ.out).mono ?_
          rintro e w3 ⟨vv, rfl, hR3, hbb⟩
          refine ⟨_, rfl, ?_⟩
          refine hK.out _ _ ⟨A, c, v1, vv, nc, m2_, m8_, m10_, m11_, (by rw [ha.out]; exact putSel_upk 9 hb_ rfl rfl rfl), ⟨cb hbb HQ.out.1, cb hbb HQ.out.2⟩, fun h0_ => absurd ((hon 2 (by kernel_rfl)).symm.trans h0_) (by decide), fun _ => ⟨GW.out.1.below hbb, GW.out.2.trans (grown_of_below hbb _)⟩, fun _ => Kd.C_below RC.out hbb, fun _ => Kd.R_below R1.out hbb, fun _ h1_ => absurd ((up_self b 9).symm.trans h1_) (by decide), fun _ => Kd.R_mono (Kd.R_lower (Kd.R_bound hR3) (Nat.le_trans HB.out.size (Nat.le_trans HB3.out.size GW.out.2.size))) (fun q hq => ⟨trivial, fun e => by obtain ⟨_, h2, _⟩ := (Kd.R_bound R1.out).1 q e.symm; have h3 := hq.2.1; have h4 : q < w'.heap.size := (Kd.R_bound R1.out).1 q e.symm |>.2.2.1; omega⟩), Q_X2_, Q_X8_, fun h0_ => absurd ((hoff 10 (by kernel_rfl)).symm.trans h0_) (by decide), fun h0_ => absurd ((hoff 11 (by kernel_rfl)).symm.trans h0_) (by decide)⟩
        refine steps_cons ?_ ?_
        · rintro b a w' ⟨A, c, v1, v2, nc, m2_, m8_, m10_, m11_, ha, Q_HQ, Q_HBW, Q_GW, Q_RC, Q_R1, Q_SQ, Q_R2, Q_X2_, Q_X8_, Q_X10_, Q_X11_⟩ hb_ hon hoff
          refine ⟨_, rfl, fun K hK => ?_⟩
          have e38 : a.tmps[38]? = some (v1) := by rw [ha]; exact putSel_on (e := (3, 38, v1)) 3 rfl rfl (hon 3 (by kernel_rfl)) rfl
          replace ha := Aside0.mk ha
          have HQ := Aside0.mk Q_HQ
          have GW := Aside0.mk (Q_GW (hon 2 (by kernel_rfl)))
          have RC := Aside0.mk (Q_RC (hon 2 (by kernel_rfl)))
          have R1 := Aside0.mk (Q_R1 (hon 3 (by kernel_rfl)))
          have R2 := Aside0.mk (Q_R2 (hon 9 (by kernel_rfl)))
          refine value_ (w1 := w') (v := v1) (by rfl) rfl ?_ ?_
          · go_simp
            (try simp only [i64_w])
            try rfl
          refine hK.out _ _ ⟨A, c, v1, v2, nc, m2_, m8_, (v1), m11_, (by rw [ha.out]; exact putSel_upk 10 hb_ rfl rfl rfl), Q_HQ, fun h0_ => absurd ((hon 2 (by kernel_rfl)).symm.trans h0_) (by decide), Q_GW, Q_RC, Q_R1, fun _ h1_ => absurd ((hon 9 (by kernel_rfl)).symm.trans h1_) (by decide), Q_R2, Q_X2_, Q_X8_, fun _ => rfl, fun h0_ => absurd ((hoff 11 (by kernel_rfl)).symm.trans h0_) (by decide)⟩
        refine steps_cons ?_ ?_
        · rintro b a w' ⟨A, c, v1, v2, nc, m2_, m8_, m10_, m11_, ha, Q_HQ, Q_HBW, Q_GW, Q_RC, Q_R1, Q_SQ, Q_R2, Q_X2_, Q_X8_, Q_X10_, Q_X11_⟩ hb_ hon hoff
          refine ⟨_, rfl, fun K hK => ?_⟩
          have e44 : a.tmps[44]? = some (v2) := by rw [ha]; exact putSel_on (e := (9, 44, v2)) 9 rfl rfl (hon 9 (by kernel_rfl)) rfl
          replace ha := Aside0.mk ha
          have HQ := Aside0.mk Q_HQ
          have GW := Aside0.mk (Q_GW (hon 2 (by kernel_rfl)))
          have RC := Aside0.mk (Q_RC (hon 2 (by kernel_rfl)))
          have R1 := Aside0.mk (Q_R1 (hon 3 (by kernel_rfl)))
          have R2 := Aside0.mk (Q_R2 (hon 9 (by kernel_rfl)))
          refine value_ (w1 := w') (v := v2) (by rfl) rfl ?_ ?_
          · go_simp
            (try simp only [i64_w])
            try rfl
          refine hK.out _ _ ⟨A, c, v1, v2, nc, m2_, m8_, m10_, (v2), (by rw [ha.out]; exact putSel_upk 11 hb_ rfl rfl rfl), Q_HQ, fun h0_ => absurd ((hon 2 (by kernel_rfl)).symm.trans h0_) (by decide), Q_GW, Q_RC, Q_R1, fun _ h1_ => absurd ((hon 9 (by kernel_rfl)).symm.trans h1_) (by decide), Q_R2, Q_X2_, Q_X8_, Q_X10_, fun _ => rfl⟩
        refine steps_cons ?_ ?_
        · rintro b a w' ⟨A, c, v1, v2, nc, m2_, m8_, m10_, m11_, ha, Q_HQ, Q_HBW, Q_GW, Q_RC, Q_R1, Q_SQ, Q_R2, Q_X2_, Q_X8_, Q_X10_, Q_X11_⟩ hb_ hon hoff
          refine ⟨_, rfl, fun K hK => ?_⟩
          replace ha := Aside0.mk ha
          have HQ := Aside0.mk Q_HQ
          have GW := Aside0.mk (Q_GW (hon 2 (by kernel_rfl)))
          have RC := Aside0.mk (Q_RC (hon 2 (by kernel_rfl)))
          have R1 := Aside0.mk (Q_R1 (hon 3 (by kernel_rfl)))
          have R2 := Aside0.mk (Q_R2 (hon 9 (by kernel_rfl)))
          refine value_ (w1 := w') (v := .int .i64 0) (by rfl) rfl ?_ ?_
          · go_simp
            (try simp only [i64_w])
            try rfl
          refine hK.out _ _ ⟨A, c, v1, v2, nc, m2_, m8_, m10_, m11_, (by rw [ha.out]; exact putSel_upk 12 hb_ rfl rfl rfl), Q_HQ, fun h0_ => absurd ((hon 2 (by kernel_rfl)).symm.trans h0_) (by decide), Q_GW, Q_RC, Q_R1, fun _ h1_ => absurd ((hon 9 (by kernel_rfl)).symm.trans h1_) (by decide), Q_R2, Q_X2_, Q_X8_, Q_X10_, Q_X11_⟩
        exact steps_nil
      · rintro b a w' hall ⟨A, c, v1, v2, nc, m2_, m8_, m10_, m11_, ha, Q_HQ, Q_HBW, Q_GW, Q_RC, Q_R1, Q_SQ, Q_R2, Q_X2_, Q_X8_, Q_X10_, Q_X11_⟩
        clear HBW HQ
        have hb0_ := hall 0 (by kernel_rfl)
        have hb1_ := hall 1 (by kernel_rfl)
        have hb2_ := hall 2 (by kernel_rfl)
        have hb3_ := hall 3 (by kernel_rfl)
        have hb4_ := hall 4 (by kernel_rfl)
        have hb5_ := hall 5 (by kernel_rfl)
        have hb6_ := hall 6 (by kernel_rfl)
        have hb7_ := hall 7 (by kernel_rfl)
        have hb8_ := hall 8 (by kernel_rfl)
        have hb9_ := hall 9 (by kernel_rfl)
        have hb10_ := hall 10 (by kernel_rfl)
        have hb11_ := hall 11 (by kernel_rfl)
        have hb12_ := hall 12 (by kernel_rfl)
        subst ha
        obtain rfl := Q_X2_ hb2_
        obtain rfl := Q_X8_ hb8_
        obtain rfl := Q_X10_ hb10_
        obtain rfl := Q_X11_ hb11_
        simp only [putSel, hb0_, hb1_, hb2_, hb3_, hb4_, hb5_, hb6_, hb7_, hb8_, hb9_, hb10_, hb11_, hb12_, if_true, Act.put, List.setIfInBounds_toArray, List.set_cons_zero, List.set_cons_succ]
        have HQ := Aside0.mk Q_HQ
        clear Q_HQ
        clear Q_HBW
        have GW := Aside0.mk (Q_GW hb2_)
        clear Q_GW
        have RC := Aside0.mk (Q_RC hb2_)
        clear Q_RC
        have R1 := Aside0.mk (Q_R1 hb3_)
        clear Q_R1
        clear Q_SQ
        have R2 := Aside0.mk (Q_R2 hb9_)
        clear Q_R2
        clear hall hb0_ hb1_ hb2_ hb3_ hb4_ hb5_ hb6_ hb7_ hb8_ hb9_ hb10_ hb11_ hb12_
        go_wp2_with fail
        ((try simp only [Exit.inBlock, Exit.then]); refine bodyPost_ret (results_tmp3 rfl _ _ _) rfl ?_)
        exact ⟨m10_, m11_, by rw [HE'.out]; rfl, by rw [HE'.out]; exact R1.out, by rw [HE'.out]; exact Kd.R_mono R2.out (fun q h => by first | exact h | exact h.2), Below.grown (bt HB.out HB3.out) GW.out.2 (Nat.le_trans HB.out.size HB3.out.size) (fun k e => by injection e with e; omega)⟩
    · have HAK := Aside0.mk hak
      have HB3 := Aside0.mk (bt (b1 w1 (.cells #[.int .i64 f, .int .i64 t] 95)) hb2)
      clear hb2
      have HE' : Aside0 (wallsE L f t k h = ([], [], askF L.st.length L.ca.length L.su.length f t k h)) := ⟨by rw [HE.out, if_neg (by rw [HK.out]; decide), if_pos (by rw [HA.out]; exact HAK.out), HA.out]⟩
      generalize askF L.st.length L.ca.length L.su.length f t k h = ak at *
      go_wp2_with fail
      ((try simp only [Exit.inBlock, Exit.then]); refine bodyPost_ret (results_tmp3 rfl _ _ _) rfl ?_)
      exact ⟨.slice none 0 0, .slice none 0 0, by rw [HE'.out]; rfl, by rw [HE'.out]; exact Kd.R_nil _ _ _ _ _, by rw [HE'.out]; exact Kd.R_nil _ _ _ _ _, bt HB.out HB3.out⟩

end Go.Proofs.Ytkbdphjnpieceaa.G
