/- The closure of hill.Always. Printed by gen_h17.py (h17_head.lean). -/
import Derived.Test.YtkbdphjnpieceaaH16
namespace Go.Proofs.Ytkbdphjnpieceaa.G
open Go.RowKit Go.Proofs.YtkbdphjnpieceaaW.PrintWords Go.Proofs.YtkbdphjnpieceaaW.PrintLast Go.Proofs.YtkbdphjnpieceaaW.PrintMore
open Go.Sort (grow)
set_option linter.unusedVariables false
set_option linter.unusedSimpArgs false

def always1.T1 : Bool × List (List Nat × List Nat) := (true, [([], []), ([], []), ([], []), ([0, 1, 2], [0, 1, 2]), ([], []), ([4], [4]), ([5], [5]), ([3, 6], [3, 6]), ([7, 3, 0, 1, 2, 3, 4, 5, 6, 7], [7])])
def always1.B1 : List Nat := [0, 0, 0, 7, 0, 16, 48, 127, 255]
theorem always1.tab1 : rtab .any (opsOf Try.f66 1) = always1.T1 := by kernel_rfl
theorem always1.bits1 : waitsOk always1.T1.2 always1.B1 = true := by kernel_rfl
set_option maxRecDepth 100000 in
set_option maxHeartbeats 1000000 in
/-- The closure of Always. -/
theorem always1_c (L : Lv) (g mb n : Nat) (f t h : Int) (b1' b2 b3 : Nat) (w : World) {N : Nat → Prop} (hN : ∀ b, w.heap.size ≤ b → N b) (hW : Wk L g mb n N w) (hL : L.Ok) (hn : n < 999990) (q1 : w.cell? ⟨b1', 0, none⟩ = some (.pointer (some ⟨g, 0, none⟩))) (q2 : w.cell? ⟨b2, 0, none⟩ = some (.int .i64 f)) (q3 : w.cell? ⟨b2, 1, none⟩ = some (.int .i64 t)) (q4 : w.cell? ⟨b3, 2, none⟩ = some (.slice L.A2 L.ca.length L.c2))
    (hf0 : 0 ≤ f) (hf : f < L.st.length) (ht0 : 0 ≤ t) (ht : t < L.st.length) (hh0 : 0 ≤ h) (hh : h < L.su.length) :
    Calls Try.prog 66 #[.int .i64 h, .pointer (some ⟨b1', 0, none⟩), .pointer (some ⟨b2, 0, none⟩), .pointer (some ⟨b3, 0, none⟩)] w fun e w' => e = .returned (.bool (decide (stickF L f t h = L.ca.length))) ∧ Wk L g mb (n + 4) N w' ∧ w.grownBy w' (some mb) := by
  have SC := Aside0.mk fun W (hb : Below w.heap.size w W) => stick_c L g mb n f t h W (fun b hb' => hN b (Nat.le_trans hb.size hb')) (hW.below hb) hL hn hf0 hf ht0 ht hh0 hh
  obtain ⟨es, clock, hmb⟩ := hW.mbmap
  have HM : Aside0 (∀ a v, w.cell? a = some v → some a.block ≠ some mb) := ⟨fun a v ha e => by
    injection e with e
    unfold World.cell? at ha
    rw [e, hmb] at ha
    exact absurd ha (by simp)⟩
  have HQ := Aside0.mk (And.intro q1 (And.intro q2 (And.intro q3 q4)))
  clear hW hL hmb q1 q2 q3 q4
  obtain ⟨s, hs⟩ : ∃ s, s = stickF L f t h := ⟨_, rfl⟩
  rw [← hs] at SC ⊢
  clear hs
  go_enter Try.func66, Try.ntmps66
  go_wp2_with fail
  refine start_ (n := 9) (S := fun w' => True) (ds := []) #[false, false, false, false, false, false, false, false, false] (by kernel_rfl) rfl rfl trivial (fun hHeld => ?_)
  refine with_tabW always1.tab1 always1.bits1 (fun HT_ HW_ => ?_)
  have HBW := Aside0.mk (below_drew (Below.refl w.heap.size w))
  have HQ0 := HQ
  replace HQ : Aside0 (w.drew.cell? ⟨b1', 0, none⟩ = some (.pointer (some ⟨g, 0, none⟩)) ∧ w.drew.cell? ⟨b2, 0, none⟩ = some (.int .i64 f) ∧ w.drew.cell? ⟨b2, 1, none⟩ = some (.int .i64 t) ∧ w.drew.cell? ⟨b3, 2, none⟩ = some (.slice L.A2 L.ca.length L.c2)) := ⟨HQ0.out⟩
  generalize w.drew = W1 at HBW HQ ⊢
  refine inv_at [0, 1, 2, 3, 4, 5, 6, 7, 8] (fun a0_ b a w' => a = putSel a0_ b [(0, 6, .pointer (some ⟨g, 0, none⟩)), (1, 7, .agg #[.int .i64 f, .int .i64 t]), (2, 8, .int .i64 h), (3, 9, .int .i64 s), (4, 10, .pointer (some ⟨b3, 2, none⟩)), (5, 11, .slice L.A2 L.ca.length L.c2), (6, 12, .int .i64 (L.ca.length : Int)), (7, 13, .bool (s == (L.ca.length : Int))), (8, 5, .bool (s == (L.ca.length : Int)))] ∧ (b 3 = false → Below w.heap.size w w') ∧ (w'.cell? ⟨b1', 0, none⟩ = some (.pointer (some ⟨g, 0, none⟩)) ∧ w'.cell? ⟨b2, 0, none⟩ = some (.int .i64 f) ∧ w'.cell? ⟨b2, 1, none⟩ = some (.int .i64 t) ∧ w'.cell? ⟨b3, 2, none⟩ = some (.slice L.A2 L.ca.length L.c2)) ∧ (b 3 = true → Wk L g mb (n + 4) N w' ∧ w.grownBy w' (some mb))) HT_.out HW_.out (by kernel_rfl) (by kernel_rfl) ?_ ?_ ?_
  · exact ⟨by simp only [putSel, Bool.false_eq_true, if_false], fun _ => HBW.out, HQ.out, fun h_ => absurd h_ (by decide)⟩
  · skip
    clear HBW HQ
    refine steps_cons ?_ ?_
    · rintro b a w' ⟨ha, Q_HBW, Q_HQ, Q_GS⟩ hb_ hon hoff
      refine ⟨_, rfl, fun K hK => ?_⟩
      have e1 : a.tmps[1]? = some (.pointer (some ⟨b1', 0, none⟩)) := by rw [ha]; exact (putSel_off rfl).trans rfl
      replace ha := Aside0.mk ha
      have HBW := Aside0.mk (Q_HBW (hoff 3 (by kernel_rfl)))
      have HQ := Aside0.mk Q_HQ
      have k_ := HQ.out.1
      refine value_ (w1 := w') (v := .pointer (some ⟨g, 0, none⟩)) (by rfl) rfl ?_ ?_
      · go_simp
        (try simp only [i64_w])
        try rfl
      refine hK.out _ _ ⟨(by rw [ha.out]; exact putSel_upk 0 hb_ rfl rfl rfl), Q_HBW, Q_HQ, fun h0_ => absurd ((hoff 3 (by kernel_rfl)).symm.trans h0_) (by decide)⟩
    refine steps_cons ?_ ?_
    · rintro b a w' ⟨ha, Q_HBW, Q_HQ, Q_GS⟩ hb_ hon hoff
      refine ⟨_, rfl, fun K hK => ?_⟩
      have e2 : a.tmps[2]? = some (.pointer (some ⟨b2, 0, none⟩)) := by rw [ha]; exact (putSel_off rfl).trans rfl
      replace ha := Aside0.mk ha
      have HBW := Aside0.mk (Q_HBW (hoff 3 (by kernel_rfl)))
      have HQ := Aside0.mk Q_HQ
      have k_ := HQ.out.2.1
      have k2_ := HQ.out.2.2.1
      refine value_ (w1 := w') (v := .agg #[.int .i64 f, .int .i64 t]) (by rfl) rfl ?_ ?_
      · go_simp
        (try simp only [i64_w])
        try rfl
      refine hK.out _ _ ⟨(by rw [ha.out]; exact putSel_upk 1 hb_ rfl rfl rfl), Q_HBW, Q_HQ, fun h0_ => absurd ((hoff 3 (by kernel_rfl)).symm.trans h0_) (by decide)⟩
    refine steps_cons ?_ ?_
    · rintro b a w' ⟨ha, Q_HBW, Q_HQ, Q_GS⟩ hb_ hon hoff
      refine ⟨_, rfl, fun K hK => ?_⟩
      have e0 : a.tmps[0]? = some (.int .i64 h) := by rw [ha]; exact (putSel_off rfl).trans rfl
      replace ha := Aside0.mk ha
      have HBW := Aside0.mk (Q_HBW (hoff 3 (by kernel_rfl)))
      have HQ := Aside0.mk Q_HQ
      refine value_ (w1 := w') (v := .int .i64 h) (by rfl) rfl ?_ ?_
      · go_simp
        (try simp only [i64_w])
        try rfl
      refine hK.out _ _ ⟨(by rw [ha.out]; exact putSel_upk 2 hb_ rfl rfl rfl), Q_HBW, Q_HQ, fun h0_ => absurd ((hoff 3 (by kernel_rfl)).symm.trans h0_) (by decide)⟩
    refine steps_cons ?_ ?_
    · rintro b a w' ⟨ha, Q_HBW, Q_HQ, Q_GS⟩ hb_ hon hoff
      refine ⟨_, rfl, fun K hK => ?_⟩
      have e6 : a.tmps[6]? = some (.pointer (some ⟨g, 0, none⟩)) := by rw [ha]; exact putSel_on (e := (0, 6, .pointer (some ⟨g, 0, none⟩))) 0 rfl rfl (hon 0 (by kernel_rfl)) rfl
      have e7 : a.tmps[7]? = some (.agg #[.int .i64 f, .int .i64 t]) := by rw [ha]; exact putSel_on (e := (1, 7, .agg #[.int .i64 f, .int .i64 t])) 1 rfl rfl (hon 1 (by kernel_rfl)) rfl
      have e8 : a.tmps[8]? = some (.int .i64 h) := by rw [ha]; exact putSel_on (e := (2, 8, .int .i64 h)) 2 rfl rfl (hon 2 (by kernel_rfl)) rfl
      replace ha := Aside0.mk ha
      have HBW := Aside0.mk (Q_HBW hb_)
      have HQ := Aside0.mk Q_HQ
      refine call_ 67 #[.pointer (some ⟨g, 0, none⟩), .agg #[.int .i64 f, .int .i64 t], .int .i64 h] (by rfl) rfl (by go_simp) ?_
      refine (SC.out _ HBW.out).mono ?_
      rintro e w2 ⟨rfl, hW2, hg2⟩
      refine ⟨_, rfl, ?_⟩
      have hgw := (grown_of_below HBW.out (some mb)).trans hg2
      refine hK.out _ _ ⟨(by rw [ha.out]; exact putSel_upk 3 hb_ rfl rfl rfl), fun h0_ => absurd ((up_self b 3).symm.trans h0_) (by decide), ⟨hgw.cell HQ0.out.1 (HM.out _ _ HQ0.out.1), hgw.cell HQ0.out.2.1 (HM.out _ _ HQ0.out.2.1), hgw.cell HQ0.out.2.2.1 (HM.out _ _ HQ0.out.2.2.1), hgw.cell HQ0.out.2.2.2 (HM.out _ _ HQ0.out.2.2.2)⟩, fun _ => ⟨hW2, hgw⟩⟩
    refine steps_cons ?_ ?_
    · rintro b a w' ⟨ha, Q_HBW, Q_HQ, Q_GS⟩ hb_ hon hoff
      refine ⟨_, rfl, fun K hK => ?_⟩
      have e3 : a.tmps[3]? = some (.pointer (some ⟨b3, 0, none⟩)) := by rw [ha]; exact (putSel_off rfl).trans rfl
      replace ha := Aside0.mk ha
      have HQ := Aside0.mk Q_HQ
      refine value_ (w1 := w') (v := .pointer (some ⟨b3, 2, none⟩)) (by rfl) rfl ?_ ?_
      · go_simp
        (try simp only [i64_w])
        try rfl
      refine hK.out _ _ ⟨(by rw [ha.out]; exact putSel_upk 4 hb_ rfl rfl rfl), Q_HBW, Q_HQ, Q_GS⟩
    refine steps_cons ?_ ?_
    · rintro b a w' ⟨ha, Q_HBW, Q_HQ, Q_GS⟩ hb_ hon hoff
      refine ⟨_, rfl, fun K hK => ?_⟩
      have e10 : a.tmps[10]? = some (.pointer (some ⟨b3, 2, none⟩)) := by rw [ha]; exact putSel_on (e := (4, 10, .pointer (some ⟨b3, 2, none⟩))) 4 rfl rfl (hon 4 (by kernel_rfl)) rfl
      replace ha := Aside0.mk ha
      have HQ := Aside0.mk Q_HQ
      have k_ := HQ.out.2.2.2
      refine value_ (w1 := w') (v := .slice L.A2 L.ca.length L.c2) (by rfl) rfl ?_ ?_
      · go_simp
        (try simp only [i64_w])
        try rfl
      refine hK.out _ _ ⟨(by rw [ha.out]; exact putSel_upk 5 hb_ rfl rfl rfl), Q_HBW, Q_HQ, Q_GS⟩
    refine steps_cons ?_ ?_
    · rintro b a w' ⟨ha, Q_HBW, Q_HQ, Q_GS⟩ hb_ hon hoff
      refine ⟨_, rfl, fun K hK => ?_⟩
      have e11 : a.tmps[11]? = some (.slice L.A2 L.ca.length L.c2) := by rw [ha]; exact putSel_on (e := (5, 11, .slice L.A2 L.ca.length L.c2)) 5 rfl rfl (hon 5 (by kernel_rfl)) rfl
      replace ha := Aside0.mk ha
      have HQ := Aside0.mk Q_HQ
      refine value_ (w1 := w') (v := .int .i64 (L.ca.length : Int)) (by rfl) rfl ?_ ?_
      · go_simp
        (try simp only [i64_w])
        try rfl
      refine hK.out _ _ ⟨(by rw [ha.out]; exact putSel_upk 6 hb_ rfl rfl rfl), Q_HBW, Q_HQ, Q_GS⟩
    refine steps_cons ?_ ?_
    · rintro b a w' ⟨ha, Q_HBW, Q_HQ, Q_GS⟩ hb_ hon hoff
      refine ⟨_, rfl, fun K hK => ?_⟩
      have e9 : a.tmps[9]? = some (.int .i64 s) := by rw [ha]; exact putSel_on (e := (3, 9, .int .i64 s)) 3 rfl rfl (hon 3 (by kernel_rfl)) rfl
      have e12 : a.tmps[12]? = some (.int .i64 (L.ca.length : Int)) := by rw [ha]; exact putSel_on (e := (6, 12, .int .i64 (L.ca.length : Int))) 6 rfl rfl (hon 6 (by kernel_rfl)) rfl
      replace ha := Aside0.mk ha
      have HQ := Aside0.mk Q_HQ
      have GS := Aside0.mk (Q_GS (hon 3 (by kernel_rfl)))
      refine value_ (w1 := w') (v := .bool (s == (L.ca.length : Int))) (by rfl) rfl ?_ ?_
      · go_simp
        (try simp only [i64_w])
        try rfl
      refine hK.out _ _ ⟨(by rw [ha.out]; exact putSel_upk 7 hb_ rfl rfl rfl), fun h0_ => absurd ((hon 3 (by kernel_rfl)).symm.trans h0_) (by decide), Q_HQ, Q_GS⟩
    refine steps_cons ?_ ?_
    · rintro b a w' ⟨ha, Q_HBW, Q_HQ, Q_GS⟩ hb_ hon hoff
      refine ⟨_, rfl, fun K hK => ?_⟩
      have e13 : a.tmps[13]? = some (.bool (s == (L.ca.length : Int))) := by rw [ha]; exact putSel_on (e := (7, 13, .bool (s == (L.ca.length : Int)))) 7 rfl rfl (hon 7 (by kernel_rfl)) rfl
      replace ha := Aside0.mk ha
      have HQ := Aside0.mk Q_HQ
      have GS := Aside0.mk (Q_GS (hon 3 (by kernel_rfl)))
      refine value_ (w1 := w') (v := .bool (s == (L.ca.length : Int))) (by rfl) rfl ?_ ?_
      · go_simp
        (try simp only [i64_w])
        try rfl
      refine hK.out _ _ ⟨(by rw [ha.out]; exact putSel_upk 8 hb_ rfl rfl rfl), fun h0_ => absurd ((hon 3 (by kernel_rfl)).symm.trans h0_) (by decide), Q_HQ, Q_GS⟩
    exact steps_nil
  · rintro b a w' hall ⟨ha, Q_HBW, Q_HQ, Q_GS⟩
    clear HBW HQ
    have hb0_ := hall 0 (by kernel_rfl)
    have hb1_ := hall 1 (by kernel_rfl)
    have hb2_ := hall 2 (by kernel_rfl)
    have hb3_ := hall 3 (by kernel_rfl)
    have hb4_ := hall 4 (by kernel_rfl)
    have hb5_ := hall 5 (by kernel_rfl)
    have hb6_ := hall 6 (by kernel_rfl)
    have hb7_ := hall 7 (by kernel_rfl)
    have hb8_ := hall 8 (by kernel_rfl)
    subst ha
    simp only [putSel, hb0_, hb1_, hb2_, hb3_, hb4_, hb5_, hb6_, hb7_, hb8_, if_true, Act.put, List.setIfInBounds_toArray, List.set_cons_zero, List.set_cons_succ]
    clear Q_HBW
    have HQ := Aside0.mk Q_HQ
    clear Q_HQ
    have GS := Aside0.mk (Q_GS hb3_)
    clear Q_GS
    clear hall hb0_ hb1_ hb2_ hb3_ hb4_ hb5_ hb6_ hb7_ hb8_
    go_wp2_with fail
    go_ret
    refine ⟨ret_bool ?_, GS.out.1, GS.out.2⟩
    cases hb : (s == (L.ca.length : Int)) <;> simp_all
end Go.Proofs.Ytkbdphjnpieceaa.G
