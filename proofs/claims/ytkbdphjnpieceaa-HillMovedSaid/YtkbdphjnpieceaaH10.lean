/- Contract of work.clouds and of its iterator. Printed by gen_h10.py (h10_head.lean). -/
import Derived.Test.YtkbdphjnpieceaaH9
import Derived.Test.YtkbdphjnpieceaaHin
import Derived.RangeFuncNested
import Derived.RangeFuncBound
import Derived.RangeFuncCalls
import Derived.RangeFuncLeaves
import Derived.Shelf.Abstract
import Derived.OwnWalkIn
import Derived.TacticsInMore
import Derived.LoopNIn
import Derived.LoopIn
import Derived.Sort.LoopGhostIn
namespace Go.Proofs.Ytkbdphjnpieceaa.G
open Go.RowKit Go.Proofs.YtkbdphjnpieceaaW.PrintWords Go.Proofs.YtkbdphjnpieceaaW.PrintLast Go.Proofs.YtkbdphjnpieceaaW.PrintMore
open Go.Sort (grow)
set_option linter.unusedVariables false
set_option linter.unusedSimpArgs false

def clouds1.T0 : Bool × List (List Nat × List Nat) := (true, [([], []), ([0], [0]), ([1], [1]), ([2], [2]), ([3], [3]), ([], []), ([4, 5], [4, 5]), ([6], [6]), ([7], [7]), ([], [])])
def clouds1.B0 : List Nat := [0, 1, 3, 7, 15, 0, 63, 127, 255, 0]
theorem clouds1.tab0 : rtab .any (opsOf Try.f94 0) = clouds1.T0 := by kernel_rfl
theorem clouds1.bits0 : waitsOk clouds1.T0.2 clouds1.B0 = true := by kernel_rfl
def clouds1.T3 : Bool × List (List Nat × List Nat) := (true, [([], []), ([], []), ([1], [1]), ([], []), ([3], [3]), ([0, 2, 4], [0, 2, 4]), ([5, 5], [5]), ([6], [6]), ([7, 6], [6, 7]), ([6], [6]), ([9, 6], [6, 9]), ([10, 6], [6, 10]), ([11, 6], [6, 11]), ([12, 6], [6, 12]), ([6], [6]), ([14, 6], [6, 14]), ([13, 15, 6], [6, 13, 15]), ([16, 6], [6, 16]), ([6], [6]), ([18, 6], [6, 18]), ([19, 6], [6, 19]), ([20, 6], [6, 20]), ([21, 6], [6, 21]), ([6], [6]), ([23, 6], [6, 23]), ([22, 24, 6], [6, 22, 24]), ([25, 6], [6, 25]), ([8, 17, 26, 6, 6], [6, 8, 17, 26]), ([6, 27], [6, 27]), ([28, 27], [28]), ([29], [29]), ([29], [29]), ([30, 31, 29, 29], [29, 30, 31]), ([32, 29], [29, 32]), ([29, 33], [29, 33])])
def clouds1.B3 : List Nat := [0, 0, 2, 0, 8, 31, 63, 127, 255, 127, 639, 1663, 3711, 7807, 127, 16511, 65151, 130687, 127, 262271, 786559, 1835135, 3932287, 127, 8388735, 33292415, 66846847, 134217727, 268435455, 536870911, 1073741823, 1073741823, 4294967295, 8589934591, 17179869183]
theorem clouds1.tab3 : rtab .any (opsOf Try.f94 3) = clouds1.T3 := by kernel_rfl
theorem clouds1.bits3 : waitsOk clouds1.T3.2 clouds1.B3 = true := by kernel_rfl
def clB (L : Lv) (f t k h : Int) (i : Int) : Bool := inB h (rd_T88 (rd_L9 L.ca k) i).f1 (rd_T88 (rd_L9 L.ca k) i).f2 && blocksB (rd_T88 (rd_L9 L.ca k) i).f0 (rd_T85 L.st f) (rd_T85 L.st t)
def clK (L : Lv) (f t k h : Int) (m : Nat) : List Int := ((List.range m).map Int.ofNat).filter (clB L f t k h)
/-- The clouds that block. -/
def cloudsL (L : Lv) (f t k h : Int) : List Int := clK L f t k h (rd_L9 L.ca k).length
theorem clK_succ (L : Lv) (f t k h : Int) (m : Nat) : clK L f t k h (m + 1) = if clB L f t k h m = true then clK L f t k h m ++ [(m : Int)] else clK L f t k h m := by
  unfold clK
  rw [List.range_succ, List.map_append, List.filter_append]
  by_cases hc : clB L f t k h m = true
  · rw [if_pos hc]; simp [hc]
  · rw [if_neg hc]; simp [hc]
theorem clK_pre (L : Lv) (f t k h : Int) {m m' : Nat} (hm : m ≤ m') : clK L f t k h m <+: clK L f t k h m' := by
  induction m' with
  | zero => obtain rfl : m = 0 := by omega
            exact List.prefix_refl _
  | succ m' ih =>
    rcases Nat.lt_or_ge m (m' + 1) with h1 | h1
    · refine (ih (by omega)).trans ?_
      rw [clK_succ]
      split
      · exact List.prefix_append _ _
      · exact List.prefix_refl _
    · obtain rfl : m = m' + 1 := by omega
      exact List.prefix_refl _
theorem yield_alt {e : Ending} {A B : Prop} (h : (e = .returned (.bool true) ∧ A) ∨ (e = .returned (.bool false) ∧ B)) : ∃ yv, e = .returned (.bool yv) ∧ ((yv = true ∧ A) ∨ (yv = false ∧ B)) := by
  rcases h with ⟨h1, h2⟩ | ⟨h1, h2⟩
  · exact ⟨true, h1, .inl ⟨rfl, h2⟩⟩
  · exact ⟨false, h1, .inr ⟨rfl, h2⟩⟩
theorem _root_.Go.Below.trans_low {B : Nat} {W W1 W2 : World} (hB : B ≤ W.heap.size) (h : Below W.heap.size W W1) (k : Below B W1 W2) : Below B W W2 := (h.mono hB).trans k
theorem fy_low {B : Nat} {W W1 W2 : World} {a b c d : Prop} (hB : B ≤ W.heap.size) (h : Below W.heap.size W W1) (he : (a ∧ b ∧ Below B W1 W2) ∨ (c ∧ d)) : (a ∧ b ∧ Below B W W2) ∨ (c ∧ d) :=
  he.imp (fun z => ⟨z.1, z.2.1, Below.trans_low hB h z.2.2⟩) id

set_option maxHeartbeats 2000000 in
set_option maxRecDepth 100000 in
theorem clouds_stops (n : Nat) (L : Lv) (g mb m : Nat) (f t k h : Int) (b1 b2 b3 b4 : Nat) (w : World) {N : Nat → Prop} (hW : Wk L g mb m N w) (hb1 : w.cell? ⟨b1, 0, none⟩ = some (.pointer (some ⟨g, 0, none⟩))) (hb2 : w.cell? ⟨b2, 0, none⟩ = some (.int .i64 k)) (hb3 : w.cell? ⟨b3, 0, none⟩ = some (.int .i64 h))
    (hb40 : w.cell? ⟨b4, 0, none⟩ = some (.int .i64 f)) (hb41 : w.cell? ⟨b4, 1, none⟩ = some (.int .i64 t)) (hf0 : 0 ≤ f) (hf : f < L.st.length) (ht0 : 0 ≤ t) (ht : t < L.st.length) (hk0 : 0 ≤ k) (hk : k < L.ca.length)
    (oka : okSt (rd_T85 L.st f)) (okb : okSt (rd_T85 L.st t)) (okc : ∀ i : Nat, i < (rd_L9 L.ca k).length → okWl (rd_T88 (rd_L9 L.ca k) i).f0) (hlen : (rd_L9 L.ca k).length ≤ 4) :
    SeqStopsK Fence.wide (n + 1) Try.prog 94 #[.pointer (some ⟨b1, 0, none⟩), .pointer (some ⟨b2, 0, none⟩), .pointer (some ⟨b3, 0, none⟩), .pointer (some ⟨b4, 0, none⟩)] (fun x : Int => #[.int .i64 x]) (Below w.heap.size)
      (fun xs => xs = cloudsL L f t k h) (fun pre => pre <+: cloudsL L f t k h) (cloudsL L f t k h).length w := by
  intro l J Jx W hbW hJ hJx hY h0
  obtain ⟨adc, Ak, ck, ec, kc, kl, kr⟩ := at_L9 hW.land.r2 k hk0 hk
  have AW := Aside0.mk hW
  have g2 := (blk_cell AW.out.blk 2).trans rfl
  rw [ec] at g2
  have A2 := Aside0.mk (And.intro g2 (And.intro hb1 (And.intro hb2 (And.intro hb3 (And.intro hb40 (And.intro hb41 (And.intro kc kr)))))))
  have HO := Aside0.mk (And.intro oka (And.intro okb okc))
  have HYA := Aside0.mk hY
  have HJ := Aside0.mk hJ
  have HsW := hbW.size
  have HS0 := Aside0.mk hbW
  have H00 := Aside0.mk h0
  clear hW hb1 hb2 hb3 hb40 hb41 kc kr oka okb okc hY hJ hbW ec h0 g2
  refine callsIn_of_wp Try.func94 rfl trivial ?_ rfl
  simp only [Try.ntmps94, List.size_toArray, List.length_cons, List.length_nil, Nat.reduceAdd, Nat.reduceSub, Array.replicate_succ, Array.replicate_zero, List.push_toArray, List.append_toArray, List.nil_append, List.cons_append]
  gi_wp2
  obtain ⟨W1, hW1⟩ : ∃ W1, W1 = W.drew := ⟨_, rfl⟩
  have HW1 := Aside0.mk hW1
  have HB1 := Aside0.mk (show Below w.heap.size w W1 by rw [hW1]; exact below_drew HS0.out)
  have H01 := Aside0.mk (show J [] W1 by rw [hW1]; exact HJ.out [] W W.drew none H00.out (grown_of_below (below_drew (Below.refl _ _)) _) (fun r e => by cases e))
  have HZ1 : Aside0 (W.heap.size ≤ W1.heap.size) := ⟨by rw [hW1]; exact Nat.le_refl _⟩
  clear hW1 H00
  have G2 := Aside0.mk (cb HB1.out A2.out.1)
  have B1 := Aside0.mk (cb HB1.out A2.out.2.1)
  have B2 := Aside0.mk (cb HB1.out A2.out.2.2.1)
  have CK := Aside0.mk (cb HB1.out A2.out.2.2.2.2.2.2.1)
  refine start_in #[false, false, false, false, false, false, false, false, false, false] (by kernel_rfl) rfl rfl ?_
  refine with_tab_in clouds1.tab0 clouds1.bits0 (fun HT_ HW_ => ?_)
  rw [← HW1.out]
  clear HW1
  have HE : Aside0 (W1 = W1) := ⟨rfl⟩
  refine inv_at_in [0, 1, 2, 3, 4, 5, 6, 7, 8, 9] (fun a0_ b a w' => a = putSel a0_ b [(0, 8, .pointer (some ⟨g, 0, none⟩)), (1, 9, .pointer (some ⟨g, 0, none⟩)), (2, 10, .pointer (some ⟨g, 0, none⟩)), (3, 11, .pointer (some ⟨g, 2, none⟩)), (4, 12, .slice (some adc) L.ca.length L.c2), (5, 13, .int .i64 k), (6, 14, .pointer (some (adc.add k.toNat))), (7, 15, .slice Ak (rd_L9 L.ca k).length ck), (8, 16, .int .i64 (rd_L9 L.ca k).length), (9, 17, .int .i64 0)] ∧ (w' = W1)) HT_.out HW_.out (by kernel_rfl) (by kernel_rfl) ?_ ?_ ?_
  · exact ⟨by simp only [putSel, Bool.false_eq_true, if_false], HE.out⟩
  · skip
    clear HE
    refine steps_cons_in ?_ ?_
    · rintro b a w' ⟨ha, Q_HE⟩ hb_ hon hoff
      refine ⟨_, rfl, fun K hK => ?_⟩
      have e1 : a.tmps[1]? = some (.pointer (some ⟨b1, 0, none⟩)) := by rw [ha]; exact (putSel_off rfl).trans rfl
      replace ha := Aside0.mk ha
      have HE := Aside0.mk Q_HE
      subst W1
      have c_ := B1.out
      refine value_in (w1 := w') (v := .pointer (some ⟨g, 0, none⟩)) (by rfl) rfl ?_ ?_
      · go_simp
        (try simp only [i64_w])
        try rfl
      refine hK.out _ _ ⟨(by rw [ha.out]; exact putSel_upk 0 hb_ rfl rfl rfl), rfl⟩
    refine steps_cons_in ?_ ?_
    · rintro b a w' ⟨ha, Q_HE⟩ hb_ hon hoff
      refine ⟨_, rfl, fun K hK => ?_⟩
      have e8 : a.tmps[8]? = some (.pointer (some ⟨g, 0, none⟩)) := by rw [ha]; exact putSel_on (e := (0, 8, .pointer (some ⟨g, 0, none⟩))) 0 rfl rfl (hon 0 (by kernel_rfl)) rfl
      replace ha := Aside0.mk ha
      have HE := Aside0.mk Q_HE
      refine value_in (w1 := w') (v := .pointer (some ⟨g, 0, none⟩)) (by rfl) rfl ?_ ?_
      · go_simp
        (try simp only [i64_w])
        try rfl
      refine hK.out _ _ ⟨(by rw [ha.out]; exact putSel_upk 1 hb_ rfl rfl rfl), Q_HE⟩
    refine steps_cons_in ?_ ?_
    · rintro b a w' ⟨ha, Q_HE⟩ hb_ hon hoff
      refine ⟨_, rfl, fun K hK => ?_⟩
      have e9 : a.tmps[9]? = some (.pointer (some ⟨g, 0, none⟩)) := by rw [ha]; exact putSel_on (e := (1, 9, .pointer (some ⟨g, 0, none⟩))) 1 rfl rfl (hon 1 (by kernel_rfl)) rfl
      replace ha := Aside0.mk ha
      have HE := Aside0.mk Q_HE
      refine value_in (w1 := w') (v := .pointer (some ⟨g, 0, none⟩)) (by rfl) rfl ?_ ?_
      · go_simp
        (try simp only [i64_w])
        try rfl
      refine hK.out _ _ ⟨(by rw [ha.out]; exact putSel_upk 2 hb_ rfl rfl rfl), Q_HE⟩
    refine steps_cons_in ?_ ?_
    · rintro b a w' ⟨ha, Q_HE⟩ hb_ hon hoff
      refine ⟨_, rfl, fun K hK => ?_⟩
      have e10 : a.tmps[10]? = some (.pointer (some ⟨g, 0, none⟩)) := by rw [ha]; exact putSel_on (e := (2, 10, .pointer (some ⟨g, 0, none⟩))) 2 rfl rfl (hon 2 (by kernel_rfl)) rfl
      replace ha := Aside0.mk ha
      have HE := Aside0.mk Q_HE
      refine value_in (w1 := w') (v := .pointer (some ⟨g, 2, none⟩)) (by rfl) rfl ?_ ?_
      · go_simp
        (try simp only [i64_w])
        try rfl
      refine hK.out _ _ ⟨(by rw [ha.out]; exact putSel_upk 3 hb_ rfl rfl rfl), Q_HE⟩
    refine steps_cons_in ?_ ?_
    · rintro b a w' ⟨ha, Q_HE⟩ hb_ hon hoff
      refine ⟨_, rfl, fun K hK => ?_⟩
      have e11 : a.tmps[11]? = some (.pointer (some ⟨g, 2, none⟩)) := by rw [ha]; exact putSel_on (e := (3, 11, .pointer (some ⟨g, 2, none⟩))) 3 rfl rfl (hon 3 (by kernel_rfl)) rfl
      replace ha := Aside0.mk ha
      have HE := Aside0.mk Q_HE
      subst W1
      have c_ := G2.out
      refine value_in (w1 := w') (v := .slice (some adc) L.ca.length L.c2) (by rfl) rfl ?_ ?_
      · go_simp
        (try simp only [i64_w])
        try rfl
      refine hK.out _ _ ⟨(by rw [ha.out]; exact putSel_upk 4 hb_ rfl rfl rfl), rfl⟩
    refine steps_cons_in ?_ ?_
    · rintro b a w' ⟨ha, Q_HE⟩ hb_ hon hoff
      refine ⟨_, rfl, fun K hK => ?_⟩
      have e2 : a.tmps[2]? = some (.pointer (some ⟨b2, 0, none⟩)) := by rw [ha]; exact (putSel_off rfl).trans rfl
      replace ha := Aside0.mk ha
      have HE := Aside0.mk Q_HE
      subst W1
      have c_ := B2.out
      refine value_in (w1 := w') (v := .int .i64 k) (by rfl) rfl ?_ ?_
      · go_simp
        (try simp only [i64_w])
        try rfl
      refine hK.out _ _ ⟨(by rw [ha.out]; exact putSel_upk 5 hb_ rfl rfl rfl), rfl⟩
    refine steps_cons_in ?_ ?_
    · rintro b a w' ⟨ha, Q_HE⟩ hb_ hon hoff
      refine ⟨_, rfl, fun K hK => ?_⟩
      have e12 : a.tmps[12]? = some (.slice (some adc) L.ca.length L.c2) := by rw [ha]; exact putSel_on (e := (4, 12, .slice (some adc) L.ca.length L.c2)) 4 rfl rfl (hon 4 (by kernel_rfl)) rfl
      have e13 : a.tmps[13]? = some (.int .i64 k) := by rw [ha]; exact putSel_on (e := (5, 13, .int .i64 k)) 5 rfl rfl (hon 5 (by kernel_rfl)) rfl
      replace ha := Aside0.mk ha
      have HE := Aside0.mk Q_HE
      refine value_in (w1 := w') (v := .pointer (some (adc.add k.toNat))) (by rfl) rfl ?_ ?_
      · go_simp
        (try simp only [i64_w])
        try rfl
      refine hK.out _ _ ⟨(by rw [ha.out]; exact putSel_upk 6 hb_ rfl rfl rfl), Q_HE⟩
    refine steps_cons_in ?_ ?_
    · rintro b a w' ⟨ha, Q_HE⟩ hb_ hon hoff
      refine ⟨_, rfl, fun K hK => ?_⟩
      have e14 : a.tmps[14]? = some (.pointer (some (adc.add k.toNat))) := by rw [ha]; exact putSel_on (e := (6, 14, .pointer (some (adc.add k.toNat)))) 6 rfl rfl (hon 6 (by kernel_rfl)) rfl
      replace ha := Aside0.mk ha
      have HE := Aside0.mk Q_HE
      subst W1
      have c_ := CK.out
      refine value_in (w1 := w') (v := .slice Ak (rd_L9 L.ca k).length ck) (by rfl) rfl ?_ ?_
      · go_simp
        (try simp only [i64_w])
        try rfl
      refine hK.out _ _ ⟨(by rw [ha.out]; exact putSel_upk 7 hb_ rfl rfl rfl), rfl⟩
    refine steps_cons_in ?_ ?_
    · rintro b a w' ⟨ha, Q_HE⟩ hb_ hon hoff
      refine ⟨_, rfl, fun K hK => ?_⟩
      have e15 : a.tmps[15]? = some (.slice Ak (rd_L9 L.ca k).length ck) := by rw [ha]; exact putSel_on (e := (7, 15, .slice Ak (rd_L9 L.ca k).length ck)) 7 rfl rfl (hon 7 (by kernel_rfl)) rfl
      replace ha := Aside0.mk ha
      have HE := Aside0.mk Q_HE
      refine value_in (w1 := w') (v := .int .i64 (rd_L9 L.ca k).length) (by rfl) rfl ?_ ?_
      · go_simp
        (try simp only [i64_w])
        try rfl
      refine hK.out _ _ ⟨(by rw [ha.out]; exact putSel_upk 8 hb_ rfl rfl rfl), Q_HE⟩
    refine steps_cons_in ?_ ?_
    · rintro b a w' ⟨ha, Q_HE⟩ hb_ hon hoff
      refine ⟨_, rfl, fun K hK => ?_⟩
      replace ha := Aside0.mk ha
      have HE := Aside0.mk Q_HE
      refine value_in (w1 := w') (v := .int .i64 0) (by rfl) rfl ?_ ?_
      · go_simp
        (try simp only [i64_w])
        try rfl
      refine hK.out _ _ ⟨(by rw [ha.out]; exact putSel_upk 9 hb_ rfl rfl rfl), Q_HE⟩
    exact steps_nil_in
  · rintro b a w' hall ⟨ha, Q_HE⟩
    clear HE
    have hb0_ := hall 0 (by kernel_rfl)
    have hb1_ := hall 1 (by kernel_rfl)
    have hb2_ := hall 2 (by kernel_rfl)
    have hb3_ := hall 3 (by kernel_rfl)
    have hb4_ := hall 4 (by kernel_rfl)
    have hb5_ := hall 5 (by kernel_rfl)
    have hb6_ := hall 6 (by kernel_rfl)
    have hb7_ := hall 7 (by kernel_rfl)
    have hb8_ := hall 8 (by kernel_rfl)
    have hb9_ := hall 9 (by kernel_rfl)
    subst ha
    simp only [putSel, hb0_, hb1_, hb2_, hb3_, hb4_, hb5_, hb6_, hb7_, hb8_, hb9_, if_true, Act.put, List.setIfInBounds_toArray, List.set_cons_zero, List.set_cons_succ]
    have HE := Aside0.mk Q_HE
    clear Q_HE
    clear hall hb0_ hb1_ hb2_ hb3_ hb4_ hb5_ hb6_ hb7_ hb8_ hb9_
    have he_ := HE.out
    clear HE
    subst he_
    clear G2 B1 B2 CK
    gi_wp2
    gi_loopg [17] (rd_L9 L.ca k).length (fun gg s17 wr => ∃ j : Nat, s17 = .int .i64 (j : Int) ∧ j ≤ (rd_L9 L.ca k).length ∧ (rd_L9 L.ca k).length - j ≤ gg ∧ Aside0 (J (clK L f t k h j) wr) ∧ Aside0 (Below w.heap.size w wr))
    case atStart => exact ⟨0, rfl, Nat.zero_le _, Nat.le_refl _, H01, HB1⟩
    case round =>
      clear H01 HB1 HZ1
      obtain ⟨j, rfl, hj, hg, HJr, HBr⟩ := hrel
      by_cases hlt : j < (rd_L9 L.ca k).length
      · have hlti : (j : Int) < (rd_L9 L.ca k).length := by omega
        obtain ⟨adx, ex, x0, x1, x2, x3, x4, x5, x6, x7⟩ := at_T88 (Kd.C_below A2.out.2.2.2.2.2.2.2 HBr.out) j (by omega) hlti
        simp only [Int.toNat_natCast] at x0 x1 x2 x3 x4 x5 x6 x7
        gi_wp2
        have hB3 := Go.Proofs.Ytkbdphjnpieceaa.G.b1 wr (.cells #[.int .i64 (rd_T88 (rd_L9 L.ca k) (j : Int)).f0.f0, .int .i64 (rd_T88 (rd_L9 L.ca k) (j : Int)).f0.f1, .int .i64 (rd_T88 (rd_L9 L.ca k) (j : Int)).f0.f2, .int .i64 (rd_T88 (rd_L9 L.ca k) (j : Int)).f0.f3, .int .i64 (rd_T88 (rd_L9 L.ca k) (j : Int)).f0.f4, .int .i64 (rd_T88 (rd_L9 L.ca k) (j : Int)).f0.f5, .int .i64 (rd_T88 (rd_L9 L.ca k) (j : Int)).f1, .int .i64 (rd_T88 (rd_L9 L.ca k) (j : Int)).f2] 88)
        have hC3 := blk_new wr (.cells #[.int .i64 (rd_T88 (rd_L9 L.ca k) (j : Int)).f0.f0, .int .i64 (rd_T88 (rd_L9 L.ca k) (j : Int)).f0.f1, .int .i64 (rd_T88 (rd_L9 L.ca k) (j : Int)).f0.f2, .int .i64 (rd_T88 (rd_L9 L.ca k) (j : Int)).f0.f3, .int .i64 (rd_T88 (rd_L9 L.ca k) (j : Int)).f0.f4, .int .i64 (rd_T88 (rd_L9 L.ca k) (j : Int)).f0.f5, .int .i64 (rd_T88 (rd_L9 L.ca k) (j : Int)).f1, .int .i64 (rd_T88 (rd_L9 L.ca k) (j : Int)).f2] 88)
        generalize wr.alloc (.cells #[.int .i64 (rd_T88 (rd_L9 L.ca k) (j : Int)).f0.f0, .int .i64 (rd_T88 (rd_L9 L.ca k) (j : Int)).f0.f1, .int .i64 (rd_T88 (rd_L9 L.ca k) (j : Int)).f0.f2, .int .i64 (rd_T88 (rd_L9 L.ca k) (j : Int)).f0.f3, .int .i64 (rd_T88 (rd_L9 L.ca k) (j : Int)).f0.f4, .int .i64 (rd_T88 (rd_L9 L.ca k) (j : Int)).f0.f5, .int .i64 (rd_T88 (rd_L9 L.ca k) (j : Int)).f1, .int .i64 (rd_T88 (rd_L9 L.ca k) (j : Int)).f2] 88) = W3 at hB3 hC3 ⊢
        clear x0 x1 x2 x3 x4 x5 x6 x7 ex
        have HB3w := Aside0.mk (HBr.out.trans (hB3.mono HBr.out.size))
        have HB3 := Aside0.mk (And.intro HB3w.out.size hB3)
        have C0 := Aside0.mk ((blk_cell hC3 0).trans rfl)
        have C1 := Aside0.mk ((blk_cell hC3 1).trans rfl)
        have C2 := Aside0.mk ((blk_cell hC3 2).trans rfl)
        have C3 := Aside0.mk ((blk_cell hC3 3).trans rfl)
        have C4 := Aside0.mk ((blk_cell hC3 4).trans rfl)
        have C5 := Aside0.mk ((blk_cell hC3 5).trans rfl)
        have C6 := Aside0.mk ((blk_cell hC3 6).trans rfl)
        have C7 := Aside0.mk ((blk_cell hC3 7).trans rfl)
        obtain ⟨ad0, e0, x0, x1, x2, x3⟩ := at_T85 AW.out.land.r0 f hf0 hf
        obtain ⟨ad0', e0', y0, y1, y2, y3⟩ := at_T85 AW.out.land.r0 t ht0 ht
        rw [e0] at e0'
        cases e0'
        have cg0 := (blk_cell AW.out.blk 0).trans rfl
        rw [e0] at cg0
        have hl0 := AW.out.land.r0.2.1
        have G0 := Aside0.mk (cb HB3w.out cg0)
        have X0 := Aside0.mk (cb HB3w.out x0)
        have X1 := Aside0.mk (cb HB3w.out x1)
        have X2 := Aside0.mk (cb HB3w.out x2)
        have X3 := Aside0.mk (cb HB3w.out x3)
        have Y0 := Aside0.mk (cb HB3w.out y0)
        have Y1 := Aside0.mk (cb HB3w.out y1)
        have Y2 := Aside0.mk (cb HB3w.out y2)
        have Y3 := Aside0.mk (cb HB3w.out y3)
        have B1 := Aside0.mk (cb HB3w.out A2.out.2.1)
        have B3 := Aside0.mk (cb HB3w.out A2.out.2.2.2.1)
        have B40 := Aside0.mk (cb HB3w.out A2.out.2.2.2.2.1)
        have B41 := Aside0.mk (cb HB3w.out A2.out.2.2.2.2.2.1)
        clear hB3 hC3 cg0 x0 x1 x2 x3 y0 y1 y2 y3 e0
        have hcb : clB L f t k h j = (inB h (rd_T88 (rd_L9 L.ca k) (j : Int)).f1 (rd_T88 (rd_L9 L.ca k) (j : Int)).f2 && blocksB (rd_T88 (rd_L9 L.ca k) (j : Int)).f0 (rd_T85 L.st f) (rd_T85 L.st t)) := rfl
        cases hr1 : inB h (rd_T88 (rd_L9 L.ca k) (j : Int)).f1 (rd_T88 (rd_L9 L.ca k) (j : Int)).f2
        · have SW : Aside0 (∀ w, Calls Try.prog 79 #[.int .i64 h, .int .i64 (rd_T88 (rd_L9 L.ca k) (j : Int)).f1, .int .i64 (rd_T88 (rd_L9 L.ca k) (j : Int)).f2] w fun e w' => e = .returned (.bool false) ∧ w = w') := ⟨fun w => by rw [← hr1]; exact within_c _ _ _ w⟩
          have HCB : Aside0 (clB L f t k h j = false) := ⟨by rw [hcb, hr1]; rfl⟩
          clear hr1 hcb
          refine start_in #[false, false, false, false, false, false, false, false, false, false, false, false, false, false, false, false, false, false, false, false, false, false, false, false, false, false, false, false, false, false, false, false, false, false, false] (by kernel_rfl) rfl rfl ?_
          refine with_tab_in clouds1.tab3 clouds1.bits3 (fun HT_ HW_ => ?_)
          have HBW := Aside0.mk (below_drew (Below.refl W3.heap.size W3))
          generalize W3.drew = W1 at *
          refine inv_at_in [0, 1, 2, 3, 4, 5, 6, 7, 8, 9, 10, 11, 12, 13, 14, 15, 16, 17, 18, 19, 20, 21, 22, 23, 24, 25, 26, 27, 28, 29, 30, 31, 32, 33, 34] (fun a0_ b a w' => a = putSel a0_ b [(0, 22, .int .i64 h), (1, 23, .pointer (some ⟨wr.heap.size, 6, none⟩)), (2, 24, .int .i64 (rd_T88 (rd_L9 L.ca k) (j : Int)).f1), (3, 25, .pointer (some ⟨wr.heap.size, 7, none⟩)), (4, 26, .int .i64 (rd_T88 (rd_L9 L.ca k) (j : Int)).f2), (5, 27, .bool false), (6, 28, .bool false), (7, 29, undef), (8, 30, undef), (9, 31, undef), (10, 32, undef), (11, 33, undef), (12, 34, undef), (13, 35, undef), (14, 36, undef), (15, 37, undef), (16, 38, undef), (17, 39, undef), (18, 40, undef), (19, 41, undef), (20, 42, undef), (21, 43, undef), (22, 44, undef), (23, 45, undef), (24, 46, undef), (25, 47, undef), (26, 48, undef), (27, 49, undef), (28, 50, .bool false), (29, 51, .bool false), (30, 52, undef), (31, 53, undef), (32, 54, undef), (33, 55, undef), (34, 56, .bool false)] ∧ (Below W3.heap.size W3 w')) HT_.out HW_.out (by kernel_rfl) (by kernel_rfl) ?_ ?_ ?_
          · exact ⟨by simp only [putSel, Bool.false_eq_true, if_false], HBW.out⟩
          · skip
            clear HBW
            refine steps_cons_in ?_ ?_
            · rintro b a w' ⟨ha, Q_HBW⟩ hb_ hon hoff
              refine ⟨_, rfl, fun K hK => ?_⟩
              have e3 : a.tmps[3]? = some (.pointer (some ⟨b3, 0, none⟩)) := by rw [ha]; exact (putSel_off rfl).trans rfl
              replace ha := Aside0.mk ha
              have HBW := Aside0.mk Q_HBW
              have k0_ := cb HBW.out B3.out
              refine value_in (w1 := w') (v := .int .i64 h) (by rfl) rfl ?_ ?_
              · go_simp
                (try simp only [i64_w])
                try rfl
              refine hK.out _ _ ⟨(by rw [ha.out]; exact putSel_upk 0 hb_ rfl rfl rfl), Q_HBW⟩
            refine steps_cons_in ?_ ?_
            · rintro b a w' ⟨ha, Q_HBW⟩ hb_ hon hoff
              refine ⟨_, rfl, fun K hK => ?_⟩
              have e7 : a.tmps[7]? = some (.pointer (some ⟨wr.heap.size, 0, none⟩)) := by rw [ha]; exact (putSel_off rfl).trans rfl
              replace ha := Aside0.mk ha
              have HBW := Aside0.mk Q_HBW
              refine value_in (w1 := w') (v := .pointer (some ⟨wr.heap.size, 6, none⟩)) (by rfl) rfl ?_ ?_
              · go_simp
                (try simp only [i64_w])
                try rfl
              refine hK.out _ _ ⟨(by rw [ha.out]; exact putSel_upk 1 hb_ rfl rfl rfl), Q_HBW⟩
            refine steps_cons_in ?_ ?_
            · rintro b a w' ⟨ha, Q_HBW⟩ hb_ hon hoff
              refine ⟨_, rfl, fun K hK => ?_⟩
              have e23 : a.tmps[23]? = some (.pointer (some ⟨wr.heap.size, 6, none⟩)) := by rw [ha]; exact putSel_on (e := (1, 23, .pointer (some ⟨wr.heap.size, 6, none⟩))) 1 rfl rfl (hon 1 (by kernel_rfl)) rfl
              replace ha := Aside0.mk ha
              have HBW := Aside0.mk Q_HBW
              have k0_ := cb HBW.out C6.out
              refine value_in (w1 := w') (v := .int .i64 (rd_T88 (rd_L9 L.ca k) (j : Int)).f1) (by rfl) rfl ?_ ?_
              · go_simp
                (try simp only [i64_w])
                try rfl
              refine hK.out _ _ ⟨(by rw [ha.out]; exact putSel_upk 2 hb_ rfl rfl rfl), Q_HBW⟩
            refine steps_cons_in ?_ ?_
            · rintro b a w' ⟨ha, Q_HBW⟩ hb_ hon hoff
              refine ⟨_, rfl, fun K hK => ?_⟩
              have e7 : a.tmps[7]? = some (.pointer (some ⟨wr.heap.size, 0, none⟩)) := by rw [ha]; exact (putSel_off rfl).trans rfl
              replace ha := Aside0.mk ha
              have HBW := Aside0.mk Q_HBW
              refine value_in (w1 := w') (v := .pointer (some ⟨wr.heap.size, 7, none⟩)) (by rfl) rfl ?_ ?_
              · go_simp
                (try simp only [i64_w])
                try rfl
              refine hK.out _ _ ⟨(by rw [ha.out]; exact putSel_upk 3 hb_ rfl rfl rfl), Q_HBW⟩
            refine steps_cons_in ?_ ?_
            · rintro b a w' ⟨ha, Q_HBW⟩ hb_ hon hoff
              refine ⟨_, rfl, fun K hK => ?_⟩
              have e25 : a.tmps[25]? = some (.pointer (some ⟨wr.heap.size, 7, none⟩)) := by rw [ha]; exact putSel_on (e := (3, 25, .pointer (some ⟨wr.heap.size, 7, none⟩))) 3 rfl rfl (hon 3 (by kernel_rfl)) rfl
              replace ha := Aside0.mk ha
              have HBW := Aside0.mk Q_HBW
              have k0_ := cb HBW.out C7.out
              refine value_in (w1 := w') (v := .int .i64 (rd_T88 (rd_L9 L.ca k) (j : Int)).f2) (by rfl) rfl ?_ ?_
              · go_simp
                (try simp only [i64_w])
                try rfl
              refine hK.out _ _ ⟨(by rw [ha.out]; exact putSel_upk 4 hb_ rfl rfl rfl), Q_HBW⟩
            refine steps_cons_in ?_ ?_
            · rintro b a w' ⟨ha, Q_HBW⟩ hb_ hon hoff
              refine ⟨_, rfl, fun K hK => ?_⟩
              have e22 : a.tmps[22]? = some (.int .i64 h) := by rw [ha]; exact putSel_on (e := (0, 22, .int .i64 h)) 0 rfl rfl (hon 0 (by kernel_rfl)) rfl
              have e24 : a.tmps[24]? = some (.int .i64 (rd_T88 (rd_L9 L.ca k) (j : Int)).f1) := by rw [ha]; exact putSel_on (e := (2, 24, .int .i64 (rd_T88 (rd_L9 L.ca k) (j : Int)).f1)) 2 rfl rfl (hon 2 (by kernel_rfl)) rfl
              have e26 : a.tmps[26]? = some (.int .i64 (rd_T88 (rd_L9 L.ca k) (j : Int)).f2) := by rw [ha]; exact putSel_on (e := (4, 26, .int .i64 (rd_T88 (rd_L9 L.ca k) (j : Int)).f2)) 4 rfl rfl (hon 4 (by kernel_rfl)) rfl
              replace ha := Aside0.mk ha
              have HBW := Aside0.mk Q_HBW
              refine call_in 79 #[.int .i64 h, .int .i64 (rd_T88 (rd_L9 L.ca k) (j : Int)).f1, .int .i64 (rd_T88 (rd_L9 L.ca k) (j : Int)).f2] (by rfl) rfl (by go_simp) ?_
              refine (SW.out _).mono ?_
              rintro e w2 ⟨rfl, rfl⟩
              refine ⟨_, rfl, ?_⟩
              refine hK.out _ _ ⟨(by rw [ha.out]; exact putSel_upk 5 hb_ rfl rfl rfl), HBW.out⟩
            refine steps_cons_in ?_ ?_
            · rintro b a w' ⟨ha, Q_HBW⟩ hb_ hon hoff
              refine ⟨_, rfl, fun K hK => ?_⟩
              have e27 : a.tmps[27]? = some (.bool false) := by rw [ha]; exact putSel_on (e := (5, 27, .bool false)) 5 rfl rfl (hon 5 (by kernel_rfl)) rfl
              replace ha := Aside0.mk ha
              have HBW := Aside0.mk Q_HBW
              refine value_in (w1 := w') (v := .bool false) (by rfl) rfl ?_ ?_
              · go_simp
                (try simp only [i64_w])
                try rfl
              refine hK.out _ _ ⟨(by rw [ha.out]; exact putSel_upk 6 hb_ rfl rfl rfl), Q_HBW⟩
            refine steps_cons_in ?_ ?_
            · rintro b a w' ⟨ha, Q_HBW⟩ hb_ hon hoff
              refine ⟨_, rfl, fun K hK => ?_⟩
              have e28 : a.tmps[28]? = some (.bool false) := by rw [ha]; exact putSel_on (e := (6, 28, .bool false)) 6 rfl rfl (hon 6 (by kernel_rfl)) rfl
              replace ha := Aside0.mk ha
              have HBW := Aside0.mk Q_HBW
              refine off_in (wanted_off rfl rfl rfl (e28.trans (by first | rfl | (simp [*]; done)))) rfl ?_
              refine hK.out _ _ ⟨(by rw [ha.out]; exact putSel_upk 7 hb_ rfl rfl rfl), Q_HBW⟩
            refine steps_cons_in ?_ ?_
            · rintro b a w' ⟨ha, Q_HBW⟩ hb_ hon hoff
              refine ⟨_, rfl, fun K hK => ?_⟩
              have e28 : a.tmps[28]? = some (.bool false) := by rw [ha]; exact putSel_on (e := (6, 28, .bool false)) 6 rfl rfl (hon 6 (by kernel_rfl)) rfl
              replace ha := Aside0.mk ha
              have HBW := Aside0.mk Q_HBW
              have k0_ := cb HBW.out C0.out
              have k1_ := cb HBW.out C1.out
              have k2_ := cb HBW.out C2.out
              have k3_ := cb HBW.out C3.out
              have k4_ := cb HBW.out C4.out
              have k5_ := cb HBW.out C5.out
              refine off_in (wanted_off rfl rfl rfl (e28.trans (by first | rfl | (simp [*]; done)))) rfl ?_
              refine hK.out _ _ ⟨(by rw [ha.out]; exact putSel_upk 8 hb_ rfl rfl rfl), Q_HBW⟩
            refine steps_cons_in ?_ ?_
            · rintro b a w' ⟨ha, Q_HBW⟩ hb_ hon hoff
              refine ⟨_, rfl, fun K hK => ?_⟩
              have e28 : a.tmps[28]? = some (.bool false) := by rw [ha]; exact putSel_on (e := (6, 28, .bool false)) 6 rfl rfl (hon 6 (by kernel_rfl)) rfl
              replace ha := Aside0.mk ha
              have HBW := Aside0.mk Q_HBW
              have k0_ := cb HBW.out B1.out
              refine off_in (wanted_off rfl rfl rfl (e28.trans (by first | rfl | (simp [*]; done)))) rfl ?_
              refine hK.out _ _ ⟨(by rw [ha.out]; exact putSel_upk 9 hb_ rfl rfl rfl), Q_HBW⟩
            refine steps_cons_in ?_ ?_
            · rintro b a w' ⟨ha, Q_HBW⟩ hb_ hon hoff
              refine ⟨_, rfl, fun K hK => ?_⟩
              have e28 : a.tmps[28]? = some (.bool false) := by rw [ha]; exact putSel_on (e := (6, 28, .bool false)) 6 rfl rfl (hon 6 (by kernel_rfl)) rfl
              replace ha := Aside0.mk ha
              have HBW := Aside0.mk Q_HBW
              refine off_in (wanted_off rfl rfl rfl (e28.trans (by first | rfl | (simp [*]; done)))) rfl ?_
              refine hK.out _ _ ⟨(by rw [ha.out]; exact putSel_upk 10 hb_ rfl rfl rfl), Q_HBW⟩
            refine steps_cons_in ?_ ?_
            · rintro b a w' ⟨ha, Q_HBW⟩ hb_ hon hoff
              refine ⟨_, rfl, fun K hK => ?_⟩
              have e28 : a.tmps[28]? = some (.bool false) := by rw [ha]; exact putSel_on (e := (6, 28, .bool false)) 6 rfl rfl (hon 6 (by kernel_rfl)) rfl
              replace ha := Aside0.mk ha
              have HBW := Aside0.mk Q_HBW
              refine off_in (wanted_off rfl rfl rfl (e28.trans (by first | rfl | (simp [*]; done)))) rfl ?_
              refine hK.out _ _ ⟨(by rw [ha.out]; exact putSel_upk 11 hb_ rfl rfl rfl), Q_HBW⟩
            refine steps_cons_in ?_ ?_
            · rintro b a w' ⟨ha, Q_HBW⟩ hb_ hon hoff
              refine ⟨_, rfl, fun K hK => ?_⟩
              have e28 : a.tmps[28]? = some (.bool false) := by rw [ha]; exact putSel_on (e := (6, 28, .bool false)) 6 rfl rfl (hon 6 (by kernel_rfl)) rfl
              replace ha := Aside0.mk ha
              have HBW := Aside0.mk Q_HBW
              refine off_in (wanted_off rfl rfl rfl (e28.trans (by first | rfl | (simp [*]; done)))) rfl ?_
              refine hK.out _ _ ⟨(by rw [ha.out]; exact putSel_upk 12 hb_ rfl rfl rfl), Q_HBW⟩
            refine steps_cons_in ?_ ?_
            · rintro b a w' ⟨ha, Q_HBW⟩ hb_ hon hoff
              refine ⟨_, rfl, fun K hK => ?_⟩
              have e28 : a.tmps[28]? = some (.bool false) := by rw [ha]; exact putSel_on (e := (6, 28, .bool false)) 6 rfl rfl (hon 6 (by kernel_rfl)) rfl
              replace ha := Aside0.mk ha
              have HBW := Aside0.mk Q_HBW
              have k0_ := cb HBW.out G0.out
              refine off_in (wanted_off rfl rfl rfl (e28.trans (by first | rfl | (simp [*]; done)))) rfl ?_
              refine hK.out _ _ ⟨(by rw [ha.out]; exact putSel_upk 13 hb_ rfl rfl rfl), Q_HBW⟩
            refine steps_cons_in ?_ ?_
            · rintro b a w' ⟨ha, Q_HBW⟩ hb_ hon hoff
              refine ⟨_, rfl, fun K hK => ?_⟩
              have e28 : a.tmps[28]? = some (.bool false) := by rw [ha]; exact putSel_on (e := (6, 28, .bool false)) 6 rfl rfl (hon 6 (by kernel_rfl)) rfl
              replace ha := Aside0.mk ha
              have HBW := Aside0.mk Q_HBW
              refine off_in (wanted_off rfl rfl rfl (e28.trans (by first | rfl | (simp [*]; done)))) rfl ?_
              refine hK.out _ _ ⟨(by rw [ha.out]; exact putSel_upk 14 hb_ rfl rfl rfl), Q_HBW⟩
            refine steps_cons_in ?_ ?_
            · rintro b a w' ⟨ha, Q_HBW⟩ hb_ hon hoff
              refine ⟨_, rfl, fun K hK => ?_⟩
              have e28 : a.tmps[28]? = some (.bool false) := by rw [ha]; exact putSel_on (e := (6, 28, .bool false)) 6 rfl rfl (hon 6 (by kernel_rfl)) rfl
              replace ha := Aside0.mk ha
              have HBW := Aside0.mk Q_HBW
              have k0_ := cb HBW.out B40.out
              refine off_in (wanted_off rfl rfl rfl (e28.trans (by first | rfl | (simp [*]; done)))) rfl ?_
              refine hK.out _ _ ⟨(by rw [ha.out]; exact putSel_upk 15 hb_ rfl rfl rfl), Q_HBW⟩
            refine steps_cons_in ?_ ?_
            · rintro b a w' ⟨ha, Q_HBW⟩ hb_ hon hoff
              refine ⟨_, rfl, fun K hK => ?_⟩
              have e28 : a.tmps[28]? = some (.bool false) := by rw [ha]; exact putSel_on (e := (6, 28, .bool false)) 6 rfl rfl (hon 6 (by kernel_rfl)) rfl
              replace ha := Aside0.mk ha
              have HBW := Aside0.mk Q_HBW
              refine off_in (wanted_off rfl rfl rfl (e28.trans (by first | rfl | (simp [*]; done)))) rfl ?_
              refine hK.out _ _ ⟨(by rw [ha.out]; exact putSel_upk 16 hb_ rfl rfl rfl), Q_HBW⟩
            refine steps_cons_in ?_ ?_
            · rintro b a w' ⟨ha, Q_HBW⟩ hb_ hon hoff
              refine ⟨_, rfl, fun K hK => ?_⟩
              have e28 : a.tmps[28]? = some (.bool false) := by rw [ha]; exact putSel_on (e := (6, 28, .bool false)) 6 rfl rfl (hon 6 (by kernel_rfl)) rfl
              replace ha := Aside0.mk ha
              have HBW := Aside0.mk Q_HBW
              have k0_ := cb HBW.out X0.out
              have k1_ := cb HBW.out X1.out
              have k2_ := cb HBW.out X2.out
              have k3_ := cb HBW.out X3.out
              refine off_in (wanted_off rfl rfl rfl (e28.trans (by first | rfl | (simp [*]; done)))) rfl ?_
              refine hK.out _ _ ⟨(by rw [ha.out]; exact putSel_upk 17 hb_ rfl rfl rfl), Q_HBW⟩
            refine steps_cons_in ?_ ?_
            · rintro b a w' ⟨ha, Q_HBW⟩ hb_ hon hoff
              refine ⟨_, rfl, fun K hK => ?_⟩
              have e28 : a.tmps[28]? = some (.bool false) := by rw [ha]; exact putSel_on (e := (6, 28, .bool false)) 6 rfl rfl (hon 6 (by kernel_rfl)) rfl
              replace ha := Aside0.mk ha
              have HBW := Aside0.mk Q_HBW
              have k0_ := cb HBW.out B1.out
              refine off_in (wanted_off rfl rfl rfl (e28.trans (by first | rfl | (simp [*]; done)))) rfl ?_
              refine hK.out _ _ ⟨(by rw [ha.out]; exact putSel_upk 18 hb_ rfl rfl rfl), Q_HBW⟩
            refine steps_cons_in ?_ ?_
            · rintro b a w' ⟨ha, Q_HBW⟩ hb_ hon hoff
              refine ⟨_, rfl, fun K hK => ?_⟩
              have e28 : a.tmps[28]? = some (.bool false) := by rw [ha]; exact putSel_on (e := (6, 28, .bool false)) 6 rfl rfl (hon 6 (by kernel_rfl)) rfl
              replace ha := Aside0.mk ha
              have HBW := Aside0.mk Q_HBW
              refine off_in (wanted_off rfl rfl rfl (e28.trans (by first | rfl | (simp [*]; done)))) rfl ?_
              refine hK.out _ _ ⟨(by rw [ha.out]; exact putSel_upk 19 hb_ rfl rfl rfl), Q_HBW⟩
            refine steps_cons_in ?_ ?_
            · rintro b a w' ⟨ha, Q_HBW⟩ hb_ hon hoff
              refine ⟨_, rfl, fun K hK => ?_⟩
              have e28 : a.tmps[28]? = some (.bool false) := by rw [ha]; exact putSel_on (e := (6, 28, .bool false)) 6 rfl rfl (hon 6 (by kernel_rfl)) rfl
              replace ha := Aside0.mk ha
              have HBW := Aside0.mk Q_HBW
              refine off_in (wanted_off rfl rfl rfl (e28.trans (by first | rfl | (simp [*]; done)))) rfl ?_
              refine hK.out _ _ ⟨(by rw [ha.out]; exact putSel_upk 20 hb_ rfl rfl rfl), Q_HBW⟩
            refine steps_cons_in ?_ ?_
            · rintro b a w' ⟨ha, Q_HBW⟩ hb_ hon hoff
              refine ⟨_, rfl, fun K hK => ?_⟩
              have e28 : a.tmps[28]? = some (.bool false) := by rw [ha]; exact putSel_on (e := (6, 28, .bool false)) 6 rfl rfl (hon 6 (by kernel_rfl)) rfl
              replace ha := Aside0.mk ha
              have HBW := Aside0.mk Q_HBW
              refine off_in (wanted_off rfl rfl rfl (e28.trans (by first | rfl | (simp [*]; done)))) rfl ?_
              refine hK.out _ _ ⟨(by rw [ha.out]; exact putSel_upk 21 hb_ rfl rfl rfl), Q_HBW⟩
            refine steps_cons_in ?_ ?_
            · rintro b a w' ⟨ha, Q_HBW⟩ hb_ hon hoff
              refine ⟨_, rfl, fun K hK => ?_⟩
              have e28 : a.tmps[28]? = some (.bool false) := by rw [ha]; exact putSel_on (e := (6, 28, .bool false)) 6 rfl rfl (hon 6 (by kernel_rfl)) rfl
              replace ha := Aside0.mk ha
              have HBW := Aside0.mk Q_HBW
              have k0_ := cb HBW.out G0.out
              refine off_in (wanted_off rfl rfl rfl (e28.trans (by first | rfl | (simp [*]; done)))) rfl ?_
              refine hK.out _ _ ⟨(by rw [ha.out]; exact putSel_upk 22 hb_ rfl rfl rfl), Q_HBW⟩
            refine steps_cons_in ?_ ?_
            · rintro b a w' ⟨ha, Q_HBW⟩ hb_ hon hoff
              refine ⟨_, rfl, fun K hK => ?_⟩
              have e28 : a.tmps[28]? = some (.bool false) := by rw [ha]; exact putSel_on (e := (6, 28, .bool false)) 6 rfl rfl (hon 6 (by kernel_rfl)) rfl
              replace ha := Aside0.mk ha
              have HBW := Aside0.mk Q_HBW
              refine off_in (wanted_off rfl rfl rfl (e28.trans (by first | rfl | (simp [*]; done)))) rfl ?_
              refine hK.out _ _ ⟨(by rw [ha.out]; exact putSel_upk 23 hb_ rfl rfl rfl), Q_HBW⟩
            refine steps_cons_in ?_ ?_
            · rintro b a w' ⟨ha, Q_HBW⟩ hb_ hon hoff
              refine ⟨_, rfl, fun K hK => ?_⟩
              have e28 : a.tmps[28]? = some (.bool false) := by rw [ha]; exact putSel_on (e := (6, 28, .bool false)) 6 rfl rfl (hon 6 (by kernel_rfl)) rfl
              replace ha := Aside0.mk ha
              have HBW := Aside0.mk Q_HBW
              have k0_ := cb HBW.out B41.out
              refine off_in (wanted_off rfl rfl rfl (e28.trans (by first | rfl | (simp [*]; done)))) rfl ?_
              refine hK.out _ _ ⟨(by rw [ha.out]; exact putSel_upk 24 hb_ rfl rfl rfl), Q_HBW⟩
            refine steps_cons_in ?_ ?_
            · rintro b a w' ⟨ha, Q_HBW⟩ hb_ hon hoff
              refine ⟨_, rfl, fun K hK => ?_⟩
              have e28 : a.tmps[28]? = some (.bool false) := by rw [ha]; exact putSel_on (e := (6, 28, .bool false)) 6 rfl rfl (hon 6 (by kernel_rfl)) rfl
              replace ha := Aside0.mk ha
              have HBW := Aside0.mk Q_HBW
              refine off_in (wanted_off rfl rfl rfl (e28.trans (by first | rfl | (simp [*]; done)))) rfl ?_
              refine hK.out _ _ ⟨(by rw [ha.out]; exact putSel_upk 25 hb_ rfl rfl rfl), Q_HBW⟩
            refine steps_cons_in ?_ ?_
            · rintro b a w' ⟨ha, Q_HBW⟩ hb_ hon hoff
              refine ⟨_, rfl, fun K hK => ?_⟩
              have e28 : a.tmps[28]? = some (.bool false) := by rw [ha]; exact putSel_on (e := (6, 28, .bool false)) 6 rfl rfl (hon 6 (by kernel_rfl)) rfl
              replace ha := Aside0.mk ha
              have HBW := Aside0.mk Q_HBW
              have k0_ := cb HBW.out Y0.out
              have k1_ := cb HBW.out Y1.out
              have k2_ := cb HBW.out Y2.out
              have k3_ := cb HBW.out Y3.out
              refine off_in (wanted_off rfl rfl rfl (e28.trans (by first | rfl | (simp [*]; done)))) rfl ?_
              refine hK.out _ _ ⟨(by rw [ha.out]; exact putSel_upk 26 hb_ rfl rfl rfl), Q_HBW⟩
            refine steps_cons_in ?_ ?_
            · rintro b a w' ⟨ha, Q_HBW⟩ hb_ hon hoff
              refine ⟨_, rfl, fun K hK => ?_⟩
              have e28 : a.tmps[28]? = some (.bool false) := by rw [ha]; exact putSel_on (e := (6, 28, .bool false)) 6 rfl rfl (hon 6 (by kernel_rfl)) rfl
              replace ha := Aside0.mk ha
              have HBW := Aside0.mk Q_HBW
              refine off_in (wanted_off rfl rfl rfl (e28.trans (by first | rfl | (simp [*]; done)))) rfl ?_
              refine hK.out _ _ ⟨(by rw [ha.out]; exact putSel_upk 27 hb_ rfl rfl rfl), Q_HBW⟩
            refine steps_cons_in ?_ ?_
            · rintro b a w' ⟨ha, Q_HBW⟩ hb_ hon hoff
              refine ⟨_, rfl, fun K hK => ?_⟩
              have e28 : a.tmps[28]? = some (.bool false) := by rw [ha]; exact putSel_on (e := (6, 28, .bool false)) 6 rfl rfl (hon 6 (by kernel_rfl)) rfl
              have e49 : a.tmps[49]? = some (undef) := by rw [ha]; exact putSel_on (e := (27, 49, undef)) 27 rfl rfl (hon 27 (by kernel_rfl)) rfl
              replace ha := Aside0.mk ha
              have HBW := Aside0.mk Q_HBW
              refine value_in (w1 := w') (v := .bool false) (by rfl) rfl ?_ ?_
              · go_simp
                (try simp only [i64_w])
                try rfl
              refine hK.out _ _ ⟨(by rw [ha.out]; exact putSel_upk 28 hb_ rfl rfl rfl), Q_HBW⟩
            refine steps_cons_in ?_ ?_
            · rintro b a w' ⟨ha, Q_HBW⟩ hb_ hon hoff
              refine ⟨_, rfl, fun K hK => ?_⟩
              have e50 : a.tmps[50]? = some (.bool false) := by rw [ha]; exact putSel_on (e := (28, 50, .bool false)) 28 rfl rfl (hon 28 (by kernel_rfl)) rfl
              replace ha := Aside0.mk ha
              have HBW := Aside0.mk Q_HBW
              refine value_in (w1 := w') (v := .bool false) (by rfl) rfl ?_ ?_
              · go_simp
                (try simp only [i64_w])
                try rfl
              refine hK.out _ _ ⟨(by rw [ha.out]; exact putSel_upk 29 hb_ rfl rfl rfl), Q_HBW⟩
            refine steps_cons_in ?_ ?_
            · rintro b a w' ⟨ha, Q_HBW⟩ hb_ hon hoff
              refine ⟨_, rfl, fun K hK => ?_⟩
              have e51 : a.tmps[51]? = some (.bool false) := by rw [ha]; exact putSel_on (e := (29, 51, .bool false)) 29 rfl rfl (hon 29 (by kernel_rfl)) rfl
              replace ha := Aside0.mk ha
              have HBW := Aside0.mk Q_HBW
              refine off_in (wanted_off rfl rfl rfl (e51.trans (by first | rfl | (simp [*]; done)))) rfl ?_
              refine hK.out _ _ ⟨(by rw [ha.out]; exact putSel_upk 30 hb_ rfl rfl rfl), Q_HBW⟩
            refine steps_cons_in ?_ ?_
            · rintro b a w' ⟨ha, Q_HBW⟩ hb_ hon hoff
              refine ⟨_, rfl, fun K hK => ?_⟩
              have e51 : a.tmps[51]? = some (.bool false) := by rw [ha]; exact putSel_on (e := (29, 51, .bool false)) 29 rfl rfl (hon 29 (by kernel_rfl)) rfl
              replace ha := Aside0.mk ha
              have HBW := Aside0.mk Q_HBW
              refine off_in (wanted_off rfl rfl rfl (e51.trans (by first | rfl | (simp [*]; done)))) rfl ?_
              refine hK.out _ _ ⟨(by rw [ha.out]; exact putSel_upk 31 hb_ rfl rfl rfl), Q_HBW⟩
            refine steps_cons_in ?_ ?_
            · rintro b a w' ⟨ha, Q_HBW⟩ hb_ hon hoff
              refine ⟨_, rfl, fun K hK => ?_⟩
              have e51 : a.tmps[51]? = some (.bool false) := by rw [ha]; exact putSel_on (e := (29, 51, .bool false)) 29 rfl rfl (hon 29 (by kernel_rfl)) rfl
              replace ha := Aside0.mk ha
              have HBW := Aside0.mk Q_HBW
              refine off_in (wanted_off rfl rfl rfl (e51.trans (by first | rfl | (simp [*]; done)))) rfl ?_
              refine hK.out _ _ ⟨(by rw [ha.out]; exact putSel_upk 32 hb_ rfl rfl rfl), Q_HBW⟩
            refine steps_cons_in ?_ ?_
            · rintro b a w' ⟨ha, Q_HBW⟩ hb_ hon hoff
              refine ⟨_, rfl, fun K hK => ?_⟩
              have e51 : a.tmps[51]? = some (.bool false) := by rw [ha]; exact putSel_on (e := (29, 51, .bool false)) 29 rfl rfl (hon 29 (by kernel_rfl)) rfl
              replace ha := Aside0.mk ha
              have HBW := Aside0.mk Q_HBW
              refine off_in (wanted_off rfl rfl rfl (e51.trans (by first | rfl | (simp [*]; done)))) rfl ?_
              refine hK.out _ _ ⟨(by rw [ha.out]; exact putSel_upk 33 hb_ rfl rfl rfl), Q_HBW⟩
            refine steps_cons_in ?_ ?_
            · rintro b a w' ⟨ha, Q_HBW⟩ hb_ hon hoff
              refine ⟨_, rfl, fun K hK => ?_⟩
              have e51 : a.tmps[51]? = some (.bool false) := by rw [ha]; exact putSel_on (e := (29, 51, .bool false)) 29 rfl rfl (hon 29 (by kernel_rfl)) rfl
              have e55 : a.tmps[55]? = some (undef) := by rw [ha]; exact putSel_on (e := (33, 55, undef)) 33 rfl rfl (hon 33 (by kernel_rfl)) rfl
              replace ha := Aside0.mk ha
              have HBW := Aside0.mk Q_HBW
              refine value_in (w1 := w') (v := .bool false) (by rfl) rfl ?_ ?_
              · go_simp
                (try simp only [i64_w])
                try rfl
              refine hK.out _ _ ⟨(by rw [ha.out]; exact putSel_upk 34 hb_ rfl rfl rfl), Q_HBW⟩
            exact steps_nil_in
          · rintro b a w' hall ⟨ha, Q_HBW⟩
            clear HBW
            have hb0_ := hall 0 (by kernel_rfl)
            have hb1_ := hall 1 (by kernel_rfl)
            have hb2_ := hall 2 (by kernel_rfl)
            have hb3_ := hall 3 (by kernel_rfl)
            have hb4_ := hall 4 (by kernel_rfl)
            have hb5_ := hall 5 (by kernel_rfl)
            have hb6_ := hall 6 (by kernel_rfl)
            have hb7_ := hall 7 (by kernel_rfl)
            have hb8_ := hall 8 (by kernel_rfl)
            have hb9_ := hall 9 (by kernel_rfl)
            have hb10_ := hall 10 (by kernel_rfl)
            have hb11_ := hall 11 (by kernel_rfl)
            have hb12_ := hall 12 (by kernel_rfl)
            have hb13_ := hall 13 (by kernel_rfl)
            have hb14_ := hall 14 (by kernel_rfl)
            have hb15_ := hall 15 (by kernel_rfl)
            have hb16_ := hall 16 (by kernel_rfl)
            have hb17_ := hall 17 (by kernel_rfl)
            have hb18_ := hall 18 (by kernel_rfl)
            have hb19_ := hall 19 (by kernel_rfl)
            have hb20_ := hall 20 (by kernel_rfl)
            have hb21_ := hall 21 (by kernel_rfl)
            have hb22_ := hall 22 (by kernel_rfl)
            have hb23_ := hall 23 (by kernel_rfl)
            have hb24_ := hall 24 (by kernel_rfl)
            have hb25_ := hall 25 (by kernel_rfl)
            have hb26_ := hall 26 (by kernel_rfl)
            have hb27_ := hall 27 (by kernel_rfl)
            have hb28_ := hall 28 (by kernel_rfl)
            have hb29_ := hall 29 (by kernel_rfl)
            have hb30_ := hall 30 (by kernel_rfl)
            have hb31_ := hall 31 (by kernel_rfl)
            have hb32_ := hall 32 (by kernel_rfl)
            have hb33_ := hall 33 (by kernel_rfl)
            have hb34_ := hall 34 (by kernel_rfl)
            subst ha
            simp only [putSel, hb0_, hb1_, hb2_, hb3_, hb4_, hb5_, hb6_, hb7_, hb8_, hb9_, hb10_, hb11_, hb12_, hb13_, hb14_, hb15_, hb16_, hb17_, hb18_, hb19_, hb20_, hb21_, hb22_, hb23_, hb24_, hb25_, hb26_, hb27_, hb28_, hb29_, hb30_, hb31_, hb32_, hb33_, hb34_, if_true, Act.put, List.setIfInBounds_toArray, List.set_cons_zero, List.set_cons_succ]
            have HBW := Aside0.mk Q_HBW
            clear Q_HBW
            clear hall hb0_ hb1_ hb2_ hb3_ hb4_ hb5_ hb6_ hb7_ hb8_ hb9_ hb10_ hb11_ hb12_ hb13_ hb14_ hb15_ hb16_ hb17_ hb18_ hb19_ hb20_ hb21_ hb22_ hb23_ hb24_ hb25_ hb26_ hb27_ hb28_ hb29_ hb30_ hb31_ hb32_ hb33_ hb34_
            gi_wp2
            go_roundg ((rd_L9 L.ca k).length - (j + 1))
            case measure => omega
            case rel => exact ⟨j + 1, by simp, hlt, Nat.le_refl _, ⟨by rw [clK_succ, if_neg (by rw [HCB.out]; simp)]; exact HJ.out _ _ _ none HJr.out (grown_of_below (bt HB3.out.2 HBW.out) _) (fun r e => by cases e)⟩, ⟨HBr.out.trans ((bt HB3.out.2 HBW.out).mono HBr.out.size)⟩⟩
        · have SW : Aside0 (∀ w, Calls Try.prog 79 #[.int .i64 h, .int .i64 (rd_T88 (rd_L9 L.ca k) (j : Int)).f1, .int .i64 (rd_T88 (rd_L9 L.ca k) (j : Int)).f2] w fun e w' => e = .returned (.bool true) ∧ w = w') := ⟨fun w => by rw [← hr1]; exact within_c _ _ _ w⟩
          rw [hr1, Bool.true_and] at hcb
          clear hr1
          have SB' := fun w => blocks_c (rd_T88 (rd_L9 L.ca k) (j : Int)).f0 (rd_T85 L.st f) (rd_T85 L.st t) (HO.out.2.2 j hlt) HO.out.1 HO.out.2.1 w
          cases hr2 : blocksB (rd_T88 (rd_L9 L.ca k) (j : Int)).f0 (rd_T85 L.st f) (rd_T85 L.st t)
          · rw [hr2] at hcb SB'
            have HCB := Aside0.mk hcb
            have SB := Aside0.mk SB'
            clear hr2 hcb SB'
            refine start_in #[false, false, false, false, false, false, false, false, false, false, false, false, false, false, false, false, false, false, false, false, false, false, false, false, false, false, false, false, false, false, false, false, false, false, false] (by kernel_rfl) rfl rfl ?_
            refine with_tab_in clouds1.tab3 clouds1.bits3 (fun HT_ HW_ => ?_)
            have HBW := Aside0.mk (below_drew (Below.refl W3.heap.size W3))
            generalize W3.drew = W1 at *
            refine inv_at_in [0, 1, 2, 3, 4, 5, 6, 7, 8, 9, 10, 11, 12, 13, 14, 15, 16, 17, 18, 19, 20, 21, 22, 23, 24, 25, 26, 27, 28, 29, 30, 31, 32, 33, 34] (fun a0_ b a w' => a = putSel a0_ b [(0, 22, .int .i64 h), (1, 23, .pointer (some ⟨wr.heap.size, 6, none⟩)), (2, 24, .int .i64 (rd_T88 (rd_L9 L.ca k) (j : Int)).f1), (3, 25, .pointer (some ⟨wr.heap.size, 7, none⟩)), (4, 26, .int .i64 (rd_T88 (rd_L9 L.ca k) (j : Int)).f2), (5, 27, .bool true), (6, 28, .bool true), (7, 29, .pointer (some ⟨wr.heap.size, 0, none⟩)), (8, 30, .agg #[.int .i64 ((rd_T88 (rd_L9 L.ca k) (j : Int)).f0).f0, .int .i64 ((rd_T88 (rd_L9 L.ca k) (j : Int)).f0).f1, .int .i64 ((rd_T88 (rd_L9 L.ca k) (j : Int)).f0).f2, .int .i64 ((rd_T88 (rd_L9 L.ca k) (j : Int)).f0).f3, .int .i64 ((rd_T88 (rd_L9 L.ca k) (j : Int)).f0).f4, .int .i64 ((rd_T88 (rd_L9 L.ca k) (j : Int)).f0).f5]), (9, 31, .pointer (some ⟨g, 0, none⟩)), (10, 32, .pointer (some ⟨g, 0, none⟩)), (11, 33, .pointer (some ⟨g, 0, none⟩)), (12, 34, .pointer (some ⟨g, 0, none⟩)), (13, 35, .slice (some ad0) L.st.length L.c0), (14, 36, .pointer (some ⟨b4, 0, none⟩)), (15, 37, .int .i64 f), (16, 38, .pointer (some (ad0.add (f.toNat * 4)))), (17, 39, .agg #[.int .i64 (rd_T85 L.st f).f0, .int .i64 (rd_T85 L.st f).f1, .int .i64 (rd_T85 L.st f).f2, .int .i64 (rd_T85 L.st f).f3]), (18, 40, .pointer (some ⟨g, 0, none⟩)), (19, 41, .pointer (some ⟨g, 0, none⟩)), (20, 42, .pointer (some ⟨g, 0, none⟩)), (21, 43, .pointer (some ⟨g, 0, none⟩)), (22, 44, .slice (some ad0) L.st.length L.c0), (23, 45, .pointer (some ⟨b4, 1, none⟩)), (24, 46, .int .i64 t), (25, 47, .pointer (some (ad0.add (t.toNat * 4)))), (26, 48, .agg #[.int .i64 (rd_T85 L.st t).f0, .int .i64 (rd_T85 L.st t).f1, .int .i64 (rd_T85 L.st t).f2, .int .i64 (rd_T85 L.st t).f3]), (27, 49, .bool false), (28, 50, .bool false), (29, 51, .bool false), (30, 52, undef), (31, 53, undef), (32, 54, undef), (33, 55, undef), (34, 56, .bool false)] ∧ (Below W3.heap.size W3 w')) HT_.out HW_.out (by kernel_rfl) (by kernel_rfl) ?_ ?_ ?_
            · exact ⟨by simp only [putSel, Bool.false_eq_true, if_false], HBW.out⟩
            · skip
              clear HBW
              refine steps_cons_in ?_ ?_
              · rintro b a w' ⟨ha, Q_HBW⟩ hb_ hon hoff
                refine ⟨_, rfl, fun K hK => ?_⟩
                have e3 : a.tmps[3]? = some (.pointer (some ⟨b3, 0, none⟩)) := by rw [ha]; exact (putSel_off rfl).trans rfl
                replace ha := Aside0.mk ha
                have HBW := Aside0.mk Q_HBW
                have k0_ := cb HBW.out B3.out
                refine value_in (w1 := w') (v := .int .i64 h) (by rfl) rfl ?_ ?_
                · go_simp
                  (try simp only [i64_w])
                  try rfl
                refine hK.out _ _ ⟨(by rw [ha.out]; exact putSel_upk 0 hb_ rfl rfl rfl), Q_HBW⟩
              refine steps_cons_in ?_ ?_
              · rintro b a w' ⟨ha, Q_HBW⟩ hb_ hon hoff
                refine ⟨_, rfl, fun K hK => ?_⟩
                have e7 : a.tmps[7]? = some (.pointer (some ⟨wr.heap.size, 0, none⟩)) := by rw [ha]; exact (putSel_off rfl).trans rfl
                replace ha := Aside0.mk ha
                have HBW := Aside0.mk Q_HBW
                refine value_in (w1 := w') (v := .pointer (some ⟨wr.heap.size, 6, none⟩)) (by rfl) rfl ?_ ?_
                · go_simp
                  (try simp only [i64_w])
                  try rfl
                refine hK.out _ _ ⟨(by rw [ha.out]; exact putSel_upk 1 hb_ rfl rfl rfl), Q_HBW⟩
              refine steps_cons_in ?_ ?_
              · rintro b a w' ⟨ha, Q_HBW⟩ hb_ hon hoff
                refine ⟨_, rfl, fun K hK => ?_⟩
                have e23 : a.tmps[23]? = some (.pointer (some ⟨wr.heap.size, 6, none⟩)) := by rw [ha]; exact putSel_on (e := (1, 23, .pointer (some ⟨wr.heap.size, 6, none⟩))) 1 rfl rfl (hon 1 (by kernel_rfl)) rfl
                replace ha := Aside0.mk ha
                have HBW := Aside0.mk Q_HBW
                have k0_ := cb HBW.out C6.out
                refine value_in (w1 := w') (v := .int .i64 (rd_T88 (rd_L9 L.ca k) (j : Int)).f1) (by rfl) rfl ?_ ?_
                · go_simp
                  (try simp only [i64_w])
                  try rfl
                refine hK.out _ _ ⟨(by rw [ha.out]; exact putSel_upk 2 hb_ rfl rfl rfl), Q_HBW⟩
              refine steps_cons_in ?_ ?_
              · rintro b a w' ⟨ha, Q_HBW⟩ hb_ hon hoff
                refine ⟨_, rfl, fun K hK => ?_⟩
                have e7 : a.tmps[7]? = some (.pointer (some ⟨wr.heap.size, 0, none⟩)) := by rw [ha]; exact (putSel_off rfl).trans rfl
                replace ha := Aside0.mk ha
                have HBW := Aside0.mk Q_HBW
                refine value_in (w1 := w') (v := .pointer (some ⟨wr.heap.size, 7, none⟩)) (by rfl) rfl ?_ ?_
                · go_simp
                  (try simp only [i64_w])
                  try rfl
                refine hK.out _ _ ⟨(by rw [ha.out]; exact putSel_upk 3 hb_ rfl rfl rfl), Q_HBW⟩
              refine steps_cons_in ?_ ?_
              · rintro b a w' ⟨ha, Q_HBW⟩ hb_ hon hoff
                refine ⟨_, rfl, fun K hK => ?_⟩
                have e25 : a.tmps[25]? = some (.pointer (some ⟨wr.heap.size, 7, none⟩)) := by rw [ha]; exact putSel_on (e := (3, 25, .pointer (some ⟨wr.heap.size, 7, none⟩))) 3 rfl rfl (hon 3 (by kernel_rfl)) rfl
                replace ha := Aside0.mk ha
                have HBW := Aside0.mk Q_HBW
                have k0_ := cb HBW.out C7.out
                refine value_in (w1 := w') (v := .int .i64 (rd_T88 (rd_L9 L.ca k) (j : Int)).f2) (by rfl) rfl ?_ ?_
                · go_simp
                  (try simp only [i64_w])
                  try rfl
                refine hK.out _ _ ⟨(by rw [ha.out]; exact putSel_upk 4 hb_ rfl rfl rfl), Q_HBW⟩
              refine steps_cons_in ?_ ?_
              · rintro b a w' ⟨ha, Q_HBW⟩ hb_ hon hoff
                refine ⟨_, rfl, fun K hK => ?_⟩
                have e22 : a.tmps[22]? = some (.int .i64 h) := by rw [ha]; exact putSel_on (e := (0, 22, .int .i64 h)) 0 rfl rfl (hon 0 (by kernel_rfl)) rfl
                have e24 : a.tmps[24]? = some (.int .i64 (rd_T88 (rd_L9 L.ca k) (j : Int)).f1) := by rw [ha]; exact putSel_on (e := (2, 24, .int .i64 (rd_T88 (rd_L9 L.ca k) (j : Int)).f1)) 2 rfl rfl (hon 2 (by kernel_rfl)) rfl
                have e26 : a.tmps[26]? = some (.int .i64 (rd_T88 (rd_L9 L.ca k) (j : Int)).f2) := by rw [ha]; exact putSel_on (e := (4, 26, .int .i64 (rd_T88 (rd_L9 L.ca k) (j : Int)).f2)) 4 rfl rfl (hon 4 (by kernel_rfl)) rfl
                replace ha := Aside0.mk ha
                have HBW := Aside0.mk Q_HBW
                refine call_in 79 #[.int .i64 h, .int .i64 (rd_T88 (rd_L9 L.ca k) (j : Int)).f1, .int .i64 (rd_T88 (rd_L9 L.ca k) (j : Int)).f2] (by rfl) rfl (by go_simp) ?_
                refine (SW.out _).mono ?_
                rintro e w2 ⟨rfl, rfl⟩
                refine ⟨_, rfl, ?_⟩
                refine hK.out _ _ ⟨(by rw [ha.out]; exact putSel_upk 5 hb_ rfl rfl rfl), HBW.out⟩
              refine steps_cons_in ?_ ?_
              · rintro b a w' ⟨ha, Q_HBW⟩ hb_ hon hoff
                refine ⟨_, rfl, fun K hK => ?_⟩
                have e27 : a.tmps[27]? = some (.bool true) := by rw [ha]; exact putSel_on (e := (5, 27, .bool true)) 5 rfl rfl (hon 5 (by kernel_rfl)) rfl
                replace ha := Aside0.mk ha
                have HBW := Aside0.mk Q_HBW
                refine value_in (w1 := w') (v := .bool true) (by rfl) rfl ?_ ?_
                · go_simp
                  (try simp only [i64_w])
                  try rfl
                refine hK.out _ _ ⟨(by rw [ha.out]; exact putSel_upk 6 hb_ rfl rfl rfl), Q_HBW⟩
              refine steps_cons_in ?_ ?_
              · rintro b a w' ⟨ha, Q_HBW⟩ hb_ hon hoff
                refine ⟨_, rfl, fun K hK => ?_⟩
                have e7 : a.tmps[7]? = some (.pointer (some ⟨wr.heap.size, 0, none⟩)) := by rw [ha]; exact (putSel_off rfl).trans rfl
                have e28 : a.tmps[28]? = some (.bool true) := by rw [ha]; exact putSel_on (e := (6, 28, .bool true)) 6 rfl rfl (hon 6 (by kernel_rfl)) rfl
                replace ha := Aside0.mk ha
                have HBW := Aside0.mk Q_HBW
                refine value_in (w1 := w') (v := .pointer (some ⟨wr.heap.size, 0, none⟩)) (wanted_on rfl rfl rfl (e28.trans (by first | rfl | (simp [*]; done)))) rfl ?_ ?_
                · go_simp
                  (try simp only [i64_w])
                  try rfl
                refine hK.out _ _ ⟨(by rw [ha.out]; exact putSel_upk 7 hb_ rfl rfl rfl), Q_HBW⟩
              refine steps_cons_in ?_ ?_
              · rintro b a w' ⟨ha, Q_HBW⟩ hb_ hon hoff
                refine ⟨_, rfl, fun K hK => ?_⟩
                have e29 : a.tmps[29]? = some (.pointer (some ⟨wr.heap.size, 0, none⟩)) := by rw [ha]; exact putSel_on (e := (7, 29, .pointer (some ⟨wr.heap.size, 0, none⟩))) 7 rfl rfl (hon 7 (by kernel_rfl)) rfl
                have e28 : a.tmps[28]? = some (.bool true) := by rw [ha]; exact putSel_on (e := (6, 28, .bool true)) 6 rfl rfl (hon 6 (by kernel_rfl)) rfl
                replace ha := Aside0.mk ha
                have HBW := Aside0.mk Q_HBW
                have k0_ := cb HBW.out C0.out
                have k1_ := cb HBW.out C1.out
                have k2_ := cb HBW.out C2.out
                have k3_ := cb HBW.out C3.out
                have k4_ := cb HBW.out C4.out
                have k5_ := cb HBW.out C5.out
                refine value_in (w1 := w') (v := .agg #[.int .i64 ((rd_T88 (rd_L9 L.ca k) (j : Int)).f0).f0, .int .i64 ((rd_T88 (rd_L9 L.ca k) (j : Int)).f0).f1, .int .i64 ((rd_T88 (rd_L9 L.ca k) (j : Int)).f0).f2, .int .i64 ((rd_T88 (rd_L9 L.ca k) (j : Int)).f0).f3, .int .i64 ((rd_T88 (rd_L9 L.ca k) (j : Int)).f0).f4, .int .i64 ((rd_T88 (rd_L9 L.ca k) (j : Int)).f0).f5]) (wanted_on rfl rfl rfl (e28.trans (by first | rfl | (simp [*]; done)))) rfl ?_ ?_
                · go_simp
                  (try simp only [i64_w])
                  try rfl
                refine hK.out _ _ ⟨(by rw [ha.out]; exact putSel_upk 8 hb_ rfl rfl rfl), Q_HBW⟩
              refine steps_cons_in ?_ ?_
              · rintro b a w' ⟨ha, Q_HBW⟩ hb_ hon hoff
                refine ⟨_, rfl, fun K hK => ?_⟩
                have e1 : a.tmps[1]? = some (.pointer (some ⟨b1, 0, none⟩)) := by rw [ha]; exact (putSel_off rfl).trans rfl
                have e28 : a.tmps[28]? = some (.bool true) := by rw [ha]; exact putSel_on (e := (6, 28, .bool true)) 6 rfl rfl (hon 6 (by kernel_rfl)) rfl
                replace ha := Aside0.mk ha
                have HBW := Aside0.mk Q_HBW
                have k0_ := cb HBW.out B1.out
                refine value_in (w1 := w') (v := .pointer (some ⟨g, 0, none⟩)) (wanted_on rfl rfl rfl (e28.trans (by first | rfl | (simp [*]; done)))) rfl ?_ ?_
                · go_simp
                  (try simp only [i64_w])
                  try rfl
                refine hK.out _ _ ⟨(by rw [ha.out]; exact putSel_upk 9 hb_ rfl rfl rfl), Q_HBW⟩
              refine steps_cons_in ?_ ?_
              · rintro b a w' ⟨ha, Q_HBW⟩ hb_ hon hoff
                refine ⟨_, rfl, fun K hK => ?_⟩
                have e31 : a.tmps[31]? = some (.pointer (some ⟨g, 0, none⟩)) := by rw [ha]; exact putSel_on (e := (9, 31, .pointer (some ⟨g, 0, none⟩))) 9 rfl rfl (hon 9 (by kernel_rfl)) rfl
                have e28 : a.tmps[28]? = some (.bool true) := by rw [ha]; exact putSel_on (e := (6, 28, .bool true)) 6 rfl rfl (hon 6 (by kernel_rfl)) rfl
                replace ha := Aside0.mk ha
                have HBW := Aside0.mk Q_HBW
                refine value_in (w1 := w') (v := .pointer (some ⟨g, 0, none⟩)) (wanted_on rfl rfl rfl (e28.trans (by first | rfl | (simp [*]; done)))) rfl ?_ ?_
                · go_simp
                  (try simp only [i64_w])
                  try rfl
                refine hK.out _ _ ⟨(by rw [ha.out]; exact putSel_upk 10 hb_ rfl rfl rfl), Q_HBW⟩
              refine steps_cons_in ?_ ?_
              · rintro b a w' ⟨ha, Q_HBW⟩ hb_ hon hoff
                refine ⟨_, rfl, fun K hK => ?_⟩
                have e32 : a.tmps[32]? = some (.pointer (some ⟨g, 0, none⟩)) := by rw [ha]; exact putSel_on (e := (10, 32, .pointer (some ⟨g, 0, none⟩))) 10 rfl rfl (hon 10 (by kernel_rfl)) rfl
                have e28 : a.tmps[28]? = some (.bool true) := by rw [ha]; exact putSel_on (e := (6, 28, .bool true)) 6 rfl rfl (hon 6 (by kernel_rfl)) rfl
                replace ha := Aside0.mk ha
                have HBW := Aside0.mk Q_HBW
                refine value_in (w1 := w') (v := .pointer (some ⟨g, 0, none⟩)) (wanted_on rfl rfl rfl (e28.trans (by first | rfl | (simp [*]; done)))) rfl ?_ ?_
                · go_simp
                  (try simp only [i64_w])
                  try rfl
                refine hK.out _ _ ⟨(by rw [ha.out]; exact putSel_upk 11 hb_ rfl rfl rfl), Q_HBW⟩
              refine steps_cons_in ?_ ?_
              · rintro b a w' ⟨ha, Q_HBW⟩ hb_ hon hoff
                refine ⟨_, rfl, fun K hK => ?_⟩
                have e33 : a.tmps[33]? = some (.pointer (some ⟨g, 0, none⟩)) := by rw [ha]; exact putSel_on (e := (11, 33, .pointer (some ⟨g, 0, none⟩))) 11 rfl rfl (hon 11 (by kernel_rfl)) rfl
                have e28 : a.tmps[28]? = some (.bool true) := by rw [ha]; exact putSel_on (e := (6, 28, .bool true)) 6 rfl rfl (hon 6 (by kernel_rfl)) rfl
                replace ha := Aside0.mk ha
                have HBW := Aside0.mk Q_HBW
                refine value_in (w1 := w') (v := .pointer (some ⟨g, 0, none⟩)) (wanted_on rfl rfl rfl (e28.trans (by first | rfl | (simp [*]; done)))) rfl ?_ ?_
                · go_simp
                  (try simp only [i64_w])
                  try rfl
                refine hK.out _ _ ⟨(by rw [ha.out]; exact putSel_upk 12 hb_ rfl rfl rfl), Q_HBW⟩
              refine steps_cons_in ?_ ?_
              · rintro b a w' ⟨ha, Q_HBW⟩ hb_ hon hoff
                refine ⟨_, rfl, fun K hK => ?_⟩
                have e34 : a.tmps[34]? = some (.pointer (some ⟨g, 0, none⟩)) := by rw [ha]; exact putSel_on (e := (12, 34, .pointer (some ⟨g, 0, none⟩))) 12 rfl rfl (hon 12 (by kernel_rfl)) rfl
                have e28 : a.tmps[28]? = some (.bool true) := by rw [ha]; exact putSel_on (e := (6, 28, .bool true)) 6 rfl rfl (hon 6 (by kernel_rfl)) rfl
                replace ha := Aside0.mk ha
                have HBW := Aside0.mk Q_HBW
                have k0_ := cb HBW.out G0.out
                refine value_in (w1 := w') (v := .slice (some ad0) L.st.length L.c0) (wanted_on rfl rfl rfl (e28.trans (by first | rfl | (simp [*]; done)))) rfl ?_ ?_
                · go_simp
                  (try simp only [i64_w])
                  try rfl
                refine hK.out _ _ ⟨(by rw [ha.out]; exact putSel_upk 13 hb_ rfl rfl rfl), Q_HBW⟩
              refine steps_cons_in ?_ ?_
              · rintro b a w' ⟨ha, Q_HBW⟩ hb_ hon hoff
                refine ⟨_, rfl, fun K hK => ?_⟩
                have e4 : a.tmps[4]? = some (.pointer (some ⟨b4, 0, none⟩)) := by rw [ha]; exact (putSel_off rfl).trans rfl
                have e28 : a.tmps[28]? = some (.bool true) := by rw [ha]; exact putSel_on (e := (6, 28, .bool true)) 6 rfl rfl (hon 6 (by kernel_rfl)) rfl
                replace ha := Aside0.mk ha
                have HBW := Aside0.mk Q_HBW
                refine value_in (w1 := w') (v := .pointer (some ⟨b4, 0, none⟩)) (wanted_on rfl rfl rfl (e28.trans (by first | rfl | (simp [*]; done)))) rfl ?_ ?_
                · go_simp
                  (try simp only [i64_w])
                  try rfl
                refine hK.out _ _ ⟨(by rw [ha.out]; exact putSel_upk 14 hb_ rfl rfl rfl), Q_HBW⟩
              refine steps_cons_in ?_ ?_
              · rintro b a w' ⟨ha, Q_HBW⟩ hb_ hon hoff
                refine ⟨_, rfl, fun K hK => ?_⟩
                have e36 : a.tmps[36]? = some (.pointer (some ⟨b4, 0, none⟩)) := by rw [ha]; exact putSel_on (e := (14, 36, .pointer (some ⟨b4, 0, none⟩))) 14 rfl rfl (hon 14 (by kernel_rfl)) rfl
                have e28 : a.tmps[28]? = some (.bool true) := by rw [ha]; exact putSel_on (e := (6, 28, .bool true)) 6 rfl rfl (hon 6 (by kernel_rfl)) rfl
                replace ha := Aside0.mk ha
                have HBW := Aside0.mk Q_HBW
                have k0_ := cb HBW.out B40.out
                refine value_in (w1 := w') (v := .int .i64 f) (wanted_on rfl rfl rfl (e28.trans (by first | rfl | (simp [*]; done)))) rfl ?_ ?_
                · go_simp
                  (try simp only [i64_w])
                  try rfl
                refine hK.out _ _ ⟨(by rw [ha.out]; exact putSel_upk 15 hb_ rfl rfl rfl), Q_HBW⟩
              refine steps_cons_in ?_ ?_
              · rintro b a w' ⟨ha, Q_HBW⟩ hb_ hon hoff
                refine ⟨_, rfl, fun K hK => ?_⟩
                have e35 : a.tmps[35]? = some (.slice (some ad0) L.st.length L.c0) := by rw [ha]; exact putSel_on (e := (13, 35, .slice (some ad0) L.st.length L.c0)) 13 rfl rfl (hon 13 (by kernel_rfl)) rfl
                have e37 : a.tmps[37]? = some (.int .i64 f) := by rw [ha]; exact putSel_on (e := (15, 37, .int .i64 f)) 15 rfl rfl (hon 15 (by kernel_rfl)) rfl
                have e28 : a.tmps[28]? = some (.bool true) := by rw [ha]; exact putSel_on (e := (6, 28, .bool true)) 6 rfl rfl (hon 6 (by kernel_rfl)) rfl
                replace ha := Aside0.mk ha
                have HBW := Aside0.mk Q_HBW
                refine value_in (w1 := w') (v := .pointer (some (ad0.add (f.toNat * 4)))) (wanted_on rfl rfl rfl (e28.trans (by first | rfl | (simp [*]; done)))) rfl ?_ ?_
                · go_simp
                  (try simp only [i64_w])
                  try rfl
                refine hK.out _ _ ⟨(by rw [ha.out]; exact putSel_upk 16 hb_ rfl rfl rfl), Q_HBW⟩
              refine steps_cons_in ?_ ?_
              · rintro b a w' ⟨ha, Q_HBW⟩ hb_ hon hoff
                refine ⟨_, rfl, fun K hK => ?_⟩
                have e38 : a.tmps[38]? = some (.pointer (some (ad0.add (f.toNat * 4)))) := by rw [ha]; exact putSel_on (e := (16, 38, .pointer (some (ad0.add (f.toNat * 4))))) 16 rfl rfl (hon 16 (by kernel_rfl)) rfl
                have e28 : a.tmps[28]? = some (.bool true) := by rw [ha]; exact putSel_on (e := (6, 28, .bool true)) 6 rfl rfl (hon 6 (by kernel_rfl)) rfl
                replace ha := Aside0.mk ha
                have HBW := Aside0.mk Q_HBW
                have k0_ := cb HBW.out X0.out
                have k1_ := cb HBW.out X1.out
                have k2_ := cb HBW.out X2.out
                have k3_ := cb HBW.out X3.out
                refine value_in (w1 := w') (v := .agg #[.int .i64 (rd_T85 L.st f).f0, .int .i64 (rd_T85 L.st f).f1, .int .i64 (rd_T85 L.st f).f2, .int .i64 (rd_T85 L.st f).f3]) (wanted_on rfl rfl rfl (e28.trans (by first | rfl | (simp [*]; done)))) rfl ?_ ?_
                · go_simp
                  (try simp only [i64_w])
                  try rfl
                refine hK.out _ _ ⟨(by rw [ha.out]; exact putSel_upk 17 hb_ rfl rfl rfl), Q_HBW⟩
              refine steps_cons_in ?_ ?_
              · rintro b a w' ⟨ha, Q_HBW⟩ hb_ hon hoff
                refine ⟨_, rfl, fun K hK => ?_⟩
                have e1 : a.tmps[1]? = some (.pointer (some ⟨b1, 0, none⟩)) := by rw [ha]; exact (putSel_off rfl).trans rfl
                have e28 : a.tmps[28]? = some (.bool true) := by rw [ha]; exact putSel_on (e := (6, 28, .bool true)) 6 rfl rfl (hon 6 (by kernel_rfl)) rfl
                replace ha := Aside0.mk ha
                have HBW := Aside0.mk Q_HBW
                have k0_ := cb HBW.out B1.out
                refine value_in (w1 := w') (v := .pointer (some ⟨g, 0, none⟩)) (wanted_on rfl rfl rfl (e28.trans (by first | rfl | (simp [*]; done)))) rfl ?_ ?_
                · go_simp
                  (try simp only [i64_w])
                  try rfl
                refine hK.out _ _ ⟨(by rw [ha.out]; exact putSel_upk 18 hb_ rfl rfl rfl), Q_HBW⟩
              refine steps_cons_in ?_ ?_
              · rintro b a w' ⟨ha, Q_HBW⟩ hb_ hon hoff
                refine ⟨_, rfl, fun K hK => ?_⟩
                have e40 : a.tmps[40]? = some (.pointer (some ⟨g, 0, none⟩)) := by rw [ha]; exact putSel_on (e := (18, 40, .pointer (some ⟨g, 0, none⟩))) 18 rfl rfl (hon 18 (by kernel_rfl)) rfl
                have e28 : a.tmps[28]? = some (.bool true) := by rw [ha]; exact putSel_on (e := (6, 28, .bool true)) 6 rfl rfl (hon 6 (by kernel_rfl)) rfl
                replace ha := Aside0.mk ha
                have HBW := Aside0.mk Q_HBW
                refine value_in (w1 := w') (v := .pointer (some ⟨g, 0, none⟩)) (wanted_on rfl rfl rfl (e28.trans (by first | rfl | (simp [*]; done)))) rfl ?_ ?_
                · go_simp
                  (try simp only [i64_w])
                  try rfl
                refine hK.out _ _ ⟨(by rw [ha.out]; exact putSel_upk 19 hb_ rfl rfl rfl), Q_HBW⟩
              refine steps_cons_in ?_ ?_
              · rintro b a w' ⟨ha, Q_HBW⟩ hb_ hon hoff
                refine ⟨_, rfl, fun K hK => ?_⟩
                have e41 : a.tmps[41]? = some (.pointer (some ⟨g, 0, none⟩)) := by rw [ha]; exact putSel_on (e := (19, 41, .pointer (some ⟨g, 0, none⟩))) 19 rfl rfl (hon 19 (by kernel_rfl)) rfl
                have e28 : a.tmps[28]? = some (.bool true) := by rw [ha]; exact putSel_on (e := (6, 28, .bool true)) 6 rfl rfl (hon 6 (by kernel_rfl)) rfl
                replace ha := Aside0.mk ha
                have HBW := Aside0.mk Q_HBW
                refine value_in (w1 := w') (v := .pointer (some ⟨g, 0, none⟩)) (wanted_on rfl rfl rfl (e28.trans (by first | rfl | (simp [*]; done)))) rfl ?_ ?_
                · go_simp
                  (try simp only [i64_w])
                  try rfl
                refine hK.out _ _ ⟨(by rw [ha.out]; exact putSel_upk 20 hb_ rfl rfl rfl), Q_HBW⟩
              refine steps_cons_in ?_ ?_
              · rintro b a w' ⟨ha, Q_HBW⟩ hb_ hon hoff
                refine ⟨_, rfl, fun K hK => ?_⟩
                have e42 : a.tmps[42]? = some (.pointer (some ⟨g, 0, none⟩)) := by rw [ha]; exact putSel_on (e := (20, 42, .pointer (some ⟨g, 0, none⟩))) 20 rfl rfl (hon 20 (by kernel_rfl)) rfl
                have e28 : a.tmps[28]? = some (.bool true) := by rw [ha]; exact putSel_on (e := (6, 28, .bool true)) 6 rfl rfl (hon 6 (by kernel_rfl)) rfl
                replace ha := Aside0.mk ha
                have HBW := Aside0.mk Q_HBW
                refine value_in (w1 := w') (v := .pointer (some ⟨g, 0, none⟩)) (wanted_on rfl rfl rfl (e28.trans (by first | rfl | (simp [*]; done)))) rfl ?_ ?_
                · go_simp
                  (try simp only [i64_w])
                  try rfl
                refine hK.out _ _ ⟨(by rw [ha.out]; exact putSel_upk 21 hb_ rfl rfl rfl), Q_HBW⟩
              refine steps_cons_in ?_ ?_
              · rintro b a w' ⟨ha, Q_HBW⟩ hb_ hon hoff
                refine ⟨_, rfl, fun K hK => ?_⟩
                have e43 : a.tmps[43]? = some (.pointer (some ⟨g, 0, none⟩)) := by rw [ha]; exact putSel_on (e := (21, 43, .pointer (some ⟨g, 0, none⟩))) 21 rfl rfl (hon 21 (by kernel_rfl)) rfl
                have e28 : a.tmps[28]? = some (.bool true) := by rw [ha]; exact putSel_on (e := (6, 28, .bool true)) 6 rfl rfl (hon 6 (by kernel_rfl)) rfl
                replace ha := Aside0.mk ha
                have HBW := Aside0.mk Q_HBW
                have k0_ := cb HBW.out G0.out
                refine value_in (w1 := w') (v := .slice (some ad0) L.st.length L.c0) (wanted_on rfl rfl rfl (e28.trans (by first | rfl | (simp [*]; done)))) rfl ?_ ?_
                · go_simp
                  (try simp only [i64_w])
                  try rfl
                refine hK.out _ _ ⟨(by rw [ha.out]; exact putSel_upk 22 hb_ rfl rfl rfl), Q_HBW⟩
              refine steps_cons_in ?_ ?_
              · rintro b a w' ⟨ha, Q_HBW⟩ hb_ hon hoff
                refine ⟨_, rfl, fun K hK => ?_⟩
                have e4 : a.tmps[4]? = some (.pointer (some ⟨b4, 0, none⟩)) := by rw [ha]; exact (putSel_off rfl).trans rfl
                have e28 : a.tmps[28]? = some (.bool true) := by rw [ha]; exact putSel_on (e := (6, 28, .bool true)) 6 rfl rfl (hon 6 (by kernel_rfl)) rfl
                replace ha := Aside0.mk ha
                have HBW := Aside0.mk Q_HBW
                refine value_in (w1 := w') (v := .pointer (some ⟨b4, 1, none⟩)) (wanted_on rfl rfl rfl (e28.trans (by first | rfl | (simp [*]; done)))) rfl ?_ ?_
                · go_simp
                  (try simp only [i64_w])
                  try rfl
                refine hK.out _ _ ⟨(by rw [ha.out]; exact putSel_upk 23 hb_ rfl rfl rfl), Q_HBW⟩
              refine steps_cons_in ?_ ?_
              · rintro b a w' ⟨ha, Q_HBW⟩ hb_ hon hoff
                refine ⟨_, rfl, fun K hK => ?_⟩
                have e45 : a.tmps[45]? = some (.pointer (some ⟨b4, 1, none⟩)) := by rw [ha]; exact putSel_on (e := (23, 45, .pointer (some ⟨b4, 1, none⟩))) 23 rfl rfl (hon 23 (by kernel_rfl)) rfl
                have e28 : a.tmps[28]? = some (.bool true) := by rw [ha]; exact putSel_on (e := (6, 28, .bool true)) 6 rfl rfl (hon 6 (by kernel_rfl)) rfl
                replace ha := Aside0.mk ha
                have HBW := Aside0.mk Q_HBW
                have k0_ := cb HBW.out B41.out
                refine value_in (w1 := w') (v := .int .i64 t) (wanted_on rfl rfl rfl (e28.trans (by first | rfl | (simp [*]; done)))) rfl ?_ ?_
                · go_simp
                  (try simp only [i64_w])
                  try rfl
                refine hK.out _ _ ⟨(by rw [ha.out]; exact putSel_upk 24 hb_ rfl rfl rfl), Q_HBW⟩
              refine steps_cons_in ?_ ?_
              · rintro b a w' ⟨ha, Q_HBW⟩ hb_ hon hoff
                refine ⟨_, rfl, fun K hK => ?_⟩
                have e44 : a.tmps[44]? = some (.slice (some ad0) L.st.length L.c0) := by rw [ha]; exact putSel_on (e := (22, 44, .slice (some ad0) L.st.length L.c0)) 22 rfl rfl (hon 22 (by kernel_rfl)) rfl
                have e46 : a.tmps[46]? = some (.int .i64 t) := by rw [ha]; exact putSel_on (e := (24, 46, .int .i64 t)) 24 rfl rfl (hon 24 (by kernel_rfl)) rfl
                have e28 : a.tmps[28]? = some (.bool true) := by rw [ha]; exact putSel_on (e := (6, 28, .bool true)) 6 rfl rfl (hon 6 (by kernel_rfl)) rfl
                replace ha := Aside0.mk ha
                have HBW := Aside0.mk Q_HBW
                refine value_in (w1 := w') (v := .pointer (some (ad0.add (t.toNat * 4)))) (wanted_on rfl rfl rfl (e28.trans (by first | rfl | (simp [*]; done)))) rfl ?_ ?_
                · go_simp
                  (try simp only [i64_w])
                  try rfl
                refine hK.out _ _ ⟨(by rw [ha.out]; exact putSel_upk 25 hb_ rfl rfl rfl), Q_HBW⟩
              refine steps_cons_in ?_ ?_
              · rintro b a w' ⟨ha, Q_HBW⟩ hb_ hon hoff
                refine ⟨_, rfl, fun K hK => ?_⟩
                have e47 : a.tmps[47]? = some (.pointer (some (ad0.add (t.toNat * 4)))) := by rw [ha]; exact putSel_on (e := (25, 47, .pointer (some (ad0.add (t.toNat * 4))))) 25 rfl rfl (hon 25 (by kernel_rfl)) rfl
                have e28 : a.tmps[28]? = some (.bool true) := by rw [ha]; exact putSel_on (e := (6, 28, .bool true)) 6 rfl rfl (hon 6 (by kernel_rfl)) rfl
                replace ha := Aside0.mk ha
                have HBW := Aside0.mk Q_HBW
                have k0_ := cb HBW.out Y0.out
                have k1_ := cb HBW.out Y1.out
                have k2_ := cb HBW.out Y2.out
                have k3_ := cb HBW.out Y3.out
                refine value_in (w1 := w') (v := .agg #[.int .i64 (rd_T85 L.st t).f0, .int .i64 (rd_T85 L.st t).f1, .int .i64 (rd_T85 L.st t).f2, .int .i64 (rd_T85 L.st t).f3]) (wanted_on rfl rfl rfl (e28.trans (by first | rfl | (simp [*]; done)))) rfl ?_ ?_
                · go_simp
                  (try simp only [i64_w])
                  try rfl
                refine hK.out _ _ ⟨(by rw [ha.out]; exact putSel_upk 26 hb_ rfl rfl rfl), Q_HBW⟩
              refine steps_cons_in ?_ ?_
              · rintro b a w' ⟨ha, Q_HBW⟩ hb_ hon hoff
                refine ⟨_, rfl, fun K hK => ?_⟩
                have e30 : a.tmps[30]? = some (.agg #[.int .i64 ((rd_T88 (rd_L9 L.ca k) (j : Int)).f0).f0, .int .i64 ((rd_T88 (rd_L9 L.ca k) (j : Int)).f0).f1, .int .i64 ((rd_T88 (rd_L9 L.ca k) (j : Int)).f0).f2, .int .i64 ((rd_T88 (rd_L9 L.ca k) (j : Int)).f0).f3, .int .i64 ((rd_T88 (rd_L9 L.ca k) (j : Int)).f0).f4, .int .i64 ((rd_T88 (rd_L9 L.ca k) (j : Int)).f0).f5]) := by rw [ha]; exact putSel_on (e := (8, 30, .agg #[.int .i64 ((rd_T88 (rd_L9 L.ca k) (j : Int)).f0).f0, .int .i64 ((rd_T88 (rd_L9 L.ca k) (j : Int)).f0).f1, .int .i64 ((rd_T88 (rd_L9 L.ca k) (j : Int)).f0).f2, .int .i64 ((rd_T88 (rd_L9 L.ca k) (j : Int)).f0).f3, .int .i64 ((rd_T88 (rd_L9 L.ca k) (j : Int)).f0).f4, .int .i64 ((rd_T88 (rd_L9 L.ca k) (j : Int)).f0).f5])) 8 rfl rfl (hon 8 (by kernel_rfl)) rfl
                have e39 : a.tmps[39]? = some (.agg #[.int .i64 (rd_T85 L.st f).f0, .int .i64 (rd_T85 L.st f).f1, .int .i64 (rd_T85 L.st f).f2, .int .i64 (rd_T85 L.st f).f3]) := by rw [ha]; exact putSel_on (e := (17, 39, .agg #[.int .i64 (rd_T85 L.st f).f0, .int .i64 (rd_T85 L.st f).f1, .int .i64 (rd_T85 L.st f).f2, .int .i64 (rd_T85 L.st f).f3])) 17 rfl rfl (hon 17 (by kernel_rfl)) rfl
                have e48 : a.tmps[48]? = some (.agg #[.int .i64 (rd_T85 L.st t).f0, .int .i64 (rd_T85 L.st t).f1, .int .i64 (rd_T85 L.st t).f2, .int .i64 (rd_T85 L.st t).f3]) := by rw [ha]; exact putSel_on (e := (26, 48, .agg #[.int .i64 (rd_T85 L.st t).f0, .int .i64 (rd_T85 L.st t).f1, .int .i64 (rd_T85 L.st t).f2, .int .i64 (rd_T85 L.st t).f3])) 26 rfl rfl (hon 26 (by kernel_rfl)) rfl
                have e28 : a.tmps[28]? = some (.bool true) := by rw [ha]; exact putSel_on (e := (6, 28, .bool true)) 6 rfl rfl (hon 6 (by kernel_rfl)) rfl
                replace ha := Aside0.mk ha
                have HBW := Aside0.mk Q_HBW
                refine call_in 56 #[.agg #[.int .i64 ((rd_T88 (rd_L9 L.ca k) (j : Int)).f0).f0, .int .i64 ((rd_T88 (rd_L9 L.ca k) (j : Int)).f0).f1, .int .i64 ((rd_T88 (rd_L9 L.ca k) (j : Int)).f0).f2, .int .i64 ((rd_T88 (rd_L9 L.ca k) (j : Int)).f0).f3, .int .i64 ((rd_T88 (rd_L9 L.ca k) (j : Int)).f0).f4, .int .i64 ((rd_T88 (rd_L9 L.ca k) (j : Int)).f0).f5], .agg #[.int .i64 (rd_T85 L.st f).f0, .int .i64 (rd_T85 L.st f).f1, .int .i64 (rd_T85 L.st f).f2, .int .i64 (rd_T85 L.st f).f3], .agg #[.int .i64 (rd_T85 L.st t).f0, .int .i64 (rd_T85 L.st t).f1, .int .i64 (rd_T85 L.st t).f2, .int .i64 (rd_T85 L.st t).f3]] (wanted_on rfl rfl rfl (e28.trans (by first | rfl | (simp [*]; done)))) rfl (by go_simp) ?_
                refine (SB.out _).mono ?_
                rintro e w2 ⟨rfl, hbb⟩
                refine ⟨_, rfl, ?_⟩
                refine hK.out _ _ ⟨(by rw [ha.out]; exact putSel_upk 27 hb_ rfl rfl rfl), bt HBW.out hbb⟩
              refine steps_cons_in ?_ ?_
              · rintro b a w' ⟨ha, Q_HBW⟩ hb_ hon hoff
                refine ⟨_, rfl, fun K hK => ?_⟩
                have e28 : a.tmps[28]? = some (.bool true) := by rw [ha]; exact putSel_on (e := (6, 28, .bool true)) 6 rfl rfl (hon 6 (by kernel_rfl)) rfl
                have e49 : a.tmps[49]? = some (.bool false) := by rw [ha]; exact putSel_on (e := (27, 49, .bool false)) 27 rfl rfl (hon 27 (by kernel_rfl)) rfl
                replace ha := Aside0.mk ha
                have HBW := Aside0.mk Q_HBW
                refine value_in (w1 := w') (v := .bool false) (by rfl) rfl ?_ ?_
                · go_simp
                  (try simp only [i64_w])
                  try rfl
                refine hK.out _ _ ⟨(by rw [ha.out]; exact putSel_upk 28 hb_ rfl rfl rfl), Q_HBW⟩
              refine steps_cons_in ?_ ?_
              · rintro b a w' ⟨ha, Q_HBW⟩ hb_ hon hoff
                refine ⟨_, rfl, fun K hK => ?_⟩
                have e50 : a.tmps[50]? = some (.bool false) := by rw [ha]; exact putSel_on (e := (28, 50, .bool false)) 28 rfl rfl (hon 28 (by kernel_rfl)) rfl
                replace ha := Aside0.mk ha
                have HBW := Aside0.mk Q_HBW
                refine value_in (w1 := w') (v := .bool false) (by rfl) rfl ?_ ?_
                · go_simp
                  (try simp only [i64_w])
                  try rfl
                refine hK.out _ _ ⟨(by rw [ha.out]; exact putSel_upk 29 hb_ rfl rfl rfl), Q_HBW⟩
              refine steps_cons_in ?_ ?_
              · rintro b a w' ⟨ha, Q_HBW⟩ hb_ hon hoff
                refine ⟨_, rfl, fun K hK => ?_⟩
                have e51 : a.tmps[51]? = some (.bool false) := by rw [ha]; exact putSel_on (e := (29, 51, .bool false)) 29 rfl rfl (hon 29 (by kernel_rfl)) rfl
                replace ha := Aside0.mk ha
                have HBW := Aside0.mk Q_HBW
                refine off_in (wanted_off rfl rfl rfl (e51.trans (by first | rfl | (simp [*]; done)))) rfl ?_
                refine hK.out _ _ ⟨(by rw [ha.out]; exact putSel_upk 30 hb_ rfl rfl rfl), Q_HBW⟩
              refine steps_cons_in ?_ ?_
              · rintro b a w' ⟨ha, Q_HBW⟩ hb_ hon hoff
                refine ⟨_, rfl, fun K hK => ?_⟩
                have e51 : a.tmps[51]? = some (.bool false) := by rw [ha]; exact putSel_on (e := (29, 51, .bool false)) 29 rfl rfl (hon 29 (by kernel_rfl)) rfl
                replace ha := Aside0.mk ha
                have HBW := Aside0.mk Q_HBW
                refine off_in (wanted_off rfl rfl rfl (e51.trans (by first | rfl | (simp [*]; done)))) rfl ?_
                refine hK.out _ _ ⟨(by rw [ha.out]; exact putSel_upk 31 hb_ rfl rfl rfl), Q_HBW⟩
              refine steps_cons_in ?_ ?_
              · rintro b a w' ⟨ha, Q_HBW⟩ hb_ hon hoff
                refine ⟨_, rfl, fun K hK => ?_⟩
                have e51 : a.tmps[51]? = some (.bool false) := by rw [ha]; exact putSel_on (e := (29, 51, .bool false)) 29 rfl rfl (hon 29 (by kernel_rfl)) rfl
                replace ha := Aside0.mk ha
                have HBW := Aside0.mk Q_HBW
                refine off_in (wanted_off rfl rfl rfl (e51.trans (by first | rfl | (simp [*]; done)))) rfl ?_
                refine hK.out _ _ ⟨(by rw [ha.out]; exact putSel_upk 32 hb_ rfl rfl rfl), Q_HBW⟩
              refine steps_cons_in ?_ ?_
              · rintro b a w' ⟨ha, Q_HBW⟩ hb_ hon hoff
                refine ⟨_, rfl, fun K hK => ?_⟩
                have e51 : a.tmps[51]? = some (.bool false) := by rw [ha]; exact putSel_on (e := (29, 51, .bool false)) 29 rfl rfl (hon 29 (by kernel_rfl)) rfl
                replace ha := Aside0.mk ha
                have HBW := Aside0.mk Q_HBW
                refine off_in (wanted_off rfl rfl rfl (e51.trans (by first | rfl | (simp [*]; done)))) rfl ?_
                refine hK.out _ _ ⟨(by rw [ha.out]; exact putSel_upk 33 hb_ rfl rfl rfl), Q_HBW⟩
              refine steps_cons_in ?_ ?_
              · rintro b a w' ⟨ha, Q_HBW⟩ hb_ hon hoff
                refine ⟨_, rfl, fun K hK => ?_⟩
                have e51 : a.tmps[51]? = some (.bool false) := by rw [ha]; exact putSel_on (e := (29, 51, .bool false)) 29 rfl rfl (hon 29 (by kernel_rfl)) rfl
                have e55 : a.tmps[55]? = some (undef) := by rw [ha]; exact putSel_on (e := (33, 55, undef)) 33 rfl rfl (hon 33 (by kernel_rfl)) rfl
                replace ha := Aside0.mk ha
                have HBW := Aside0.mk Q_HBW
                refine value_in (w1 := w') (v := .bool false) (by rfl) rfl ?_ ?_
                · go_simp
                  (try simp only [i64_w])
                  try rfl
                refine hK.out _ _ ⟨(by rw [ha.out]; exact putSel_upk 34 hb_ rfl rfl rfl), Q_HBW⟩
              exact steps_nil_in
            · rintro b a w' hall ⟨ha, Q_HBW⟩
              clear HBW
              have hb0_ := hall 0 (by kernel_rfl)
              have hb1_ := hall 1 (by kernel_rfl)
              have hb2_ := hall 2 (by kernel_rfl)
              have hb3_ := hall 3 (by kernel_rfl)
              have hb4_ := hall 4 (by kernel_rfl)
              have hb5_ := hall 5 (by kernel_rfl)
              have hb6_ := hall 6 (by kernel_rfl)
              have hb7_ := hall 7 (by kernel_rfl)
              have hb8_ := hall 8 (by kernel_rfl)
              have hb9_ := hall 9 (by kernel_rfl)
              have hb10_ := hall 10 (by kernel_rfl)
              have hb11_ := hall 11 (by kernel_rfl)
              have hb12_ := hall 12 (by kernel_rfl)
              have hb13_ := hall 13 (by kernel_rfl)
              have hb14_ := hall 14 (by kernel_rfl)
              have hb15_ := hall 15 (by kernel_rfl)
              have hb16_ := hall 16 (by kernel_rfl)
              have hb17_ := hall 17 (by kernel_rfl)
              have hb18_ := hall 18 (by kernel_rfl)
              have hb19_ := hall 19 (by kernel_rfl)
              have hb20_ := hall 20 (by kernel_rfl)
              have hb21_ := hall 21 (by kernel_rfl)
              have hb22_ := hall 22 (by kernel_rfl)
              have hb23_ := hall 23 (by kernel_rfl)
              have hb24_ := hall 24 (by kernel_rfl)
              have hb25_ := hall 25 (by kernel_rfl)
              have hb26_ := hall 26 (by kernel_rfl)
              have hb27_ := hall 27 (by kernel_rfl)
              have hb28_ := hall 28 (by kernel_rfl)
              have hb29_ := hall 29 (by kernel_rfl)
              have hb30_ := hall 30 (by kernel_rfl)
              have hb31_ := hall 31 (by kernel_rfl)
              have hb32_ := hall 32 (by kernel_rfl)
              have hb33_ := hall 33 (by kernel_rfl)
              have hb34_ := hall 34 (by kernel_rfl)
              subst ha
              simp only [putSel, hb0_, hb1_, hb2_, hb3_, hb4_, hb5_, hb6_, hb7_, hb8_, hb9_, hb10_, hb11_, hb12_, hb13_, hb14_, hb15_, hb16_, hb17_, hb18_, hb19_, hb20_, hb21_, hb22_, hb23_, hb24_, hb25_, hb26_, hb27_, hb28_, hb29_, hb30_, hb31_, hb32_, hb33_, hb34_, if_true, Act.put, List.setIfInBounds_toArray, List.set_cons_zero, List.set_cons_succ]
              have HBW := Aside0.mk Q_HBW
              clear Q_HBW
              clear hall hb0_ hb1_ hb2_ hb3_ hb4_ hb5_ hb6_ hb7_ hb8_ hb9_ hb10_ hb11_ hb12_ hb13_ hb14_ hb15_ hb16_ hb17_ hb18_ hb19_ hb20_ hb21_ hb22_ hb23_ hb24_ hb25_ hb26_ hb27_ hb28_ hb29_ hb30_ hb31_ hb32_ hb33_ hb34_
              gi_wp2
              go_roundg ((rd_L9 L.ca k).length - (j + 1))
              case measure => omega
              case rel => exact ⟨j + 1, by simp, hlt, Nat.le_refl _, ⟨by rw [clK_succ, if_neg (by rw [HCB.out]; simp)]; exact HJ.out _ _ _ none HJr.out (grown_of_below (bt HB3.out.2 HBW.out) _) (fun r e => by cases e)⟩, ⟨HBr.out.trans ((bt HB3.out.2 HBW.out).mono HBr.out.size)⟩⟩
          · rw [hr2] at hcb SB'
            have HCB := Aside0.mk hcb
            have SB := Aside0.mk SB'
            have hp : clK L f t k h j ++ [(j : Int)] = clK L f t k h (j + 1) := by rw [clK_succ, if_pos hcb]
            have hp1 : clK L f t k h (j + 1) <+: cloudsL L f t k h := clK_pre L f t k h hlt
            have hp2 : (clK L f t k h j).length < (cloudsL L f t k h).length := by
              have h1 := hp1.length_le
              rw [← hp] at h1
              simp at h1
              omega
            have HP := Aside0.mk (And.intro hp hp1)
            have HY : Aside0 (∀ w', Below W3.heap.size W3 w' → YieldAt Fence.wide n Try.prog l #[.int .i64 (j : Int)] w' fun e W' => (e = .returned (.bool true) ∧ J (clK L f t k h j ++ [(j : Int)]) W' ∧ Below w.heap.size w' W') ∨ (e = .returned (.bool false) ∧ Jx (clK L f t k h j ++ [(j : Int)]) W')) :=
              ⟨fun w' hw' => HYA.out _ _ w' (HJ.out _ _ _ none HJr.out (grown_of_below (bt HB3.out.2 hw') _) (fun r e => by cases e)) hp2⟩
            clear hr2 hcb SB' hp hp1 hp2
            refine start_in #[false, false, false, false, false, false, false, false, false, false, false, false, false, false, false, false, false, false, false, false, false, false, false, false, false, false, false, false, false, false, false, false, false, false, false] (by kernel_rfl) rfl rfl ?_
            refine with_tab_in clouds1.tab3 clouds1.bits3 (fun HT_ HW_ => ?_)
            have HBW := Aside0.mk (below_drew (Below.refl W3.heap.size W3))
            generalize W3.drew = W1 at *
            refine inv_at_in [0, 1, 2, 3, 4, 5, 6, 7, 8, 9, 10, 11, 12, 13, 14, 15, 16, 17, 18, 19, 20, 21, 22, 23, 24, 25, 26, 27, 28, 29, 30, 31, 32, 33, 34] (fun a0_ b a w' => ∃ (yb : Bool) (m32_ : Value) (m33_ : Value) (m34_ : Value), a = putSel a0_ b [(0, 22, .int .i64 h), (1, 23, .pointer (some ⟨wr.heap.size, 6, none⟩)), (2, 24, .int .i64 (rd_T88 (rd_L9 L.ca k) (j : Int)).f1), (3, 25, .pointer (some ⟨wr.heap.size, 7, none⟩)), (4, 26, .int .i64 (rd_T88 (rd_L9 L.ca k) (j : Int)).f2), (5, 27, .bool true), (6, 28, .bool true), (7, 29, .pointer (some ⟨wr.heap.size, 0, none⟩)), (8, 30, .agg #[.int .i64 ((rd_T88 (rd_L9 L.ca k) (j : Int)).f0).f0, .int .i64 ((rd_T88 (rd_L9 L.ca k) (j : Int)).f0).f1, .int .i64 ((rd_T88 (rd_L9 L.ca k) (j : Int)).f0).f2, .int .i64 ((rd_T88 (rd_L9 L.ca k) (j : Int)).f0).f3, .int .i64 ((rd_T88 (rd_L9 L.ca k) (j : Int)).f0).f4, .int .i64 ((rd_T88 (rd_L9 L.ca k) (j : Int)).f0).f5]), (9, 31, .pointer (some ⟨g, 0, none⟩)), (10, 32, .pointer (some ⟨g, 0, none⟩)), (11, 33, .pointer (some ⟨g, 0, none⟩)), (12, 34, .pointer (some ⟨g, 0, none⟩)), (13, 35, .slice (some ad0) L.st.length L.c0), (14, 36, .pointer (some ⟨b4, 0, none⟩)), (15, 37, .int .i64 f), (16, 38, .pointer (some (ad0.add (f.toNat * 4)))), (17, 39, .agg #[.int .i64 (rd_T85 L.st f).f0, .int .i64 (rd_T85 L.st f).f1, .int .i64 (rd_T85 L.st f).f2, .int .i64 (rd_T85 L.st f).f3]), (18, 40, .pointer (some ⟨g, 0, none⟩)), (19, 41, .pointer (some ⟨g, 0, none⟩)), (20, 42, .pointer (some ⟨g, 0, none⟩)), (21, 43, .pointer (some ⟨g, 0, none⟩)), (22, 44, .slice (some ad0) L.st.length L.c0), (23, 45, .pointer (some ⟨b4, 1, none⟩)), (24, 46, .int .i64 t), (25, 47, .pointer (some (ad0.add (t.toNat * 4)))), (26, 48, .agg #[.int .i64 (rd_T85 L.st t).f0, .int .i64 (rd_T85 L.st t).f1, .int .i64 (rd_T85 L.st t).f2, .int .i64 (rd_T85 L.st t).f3]), (27, 49, .bool true), (28, 50, .bool true), (29, 51, .bool true), (30, 52, .func (.yield l) #[] #[]), (31, 53, .int .i64 (j : Int)), (32, 54, m32_), (33, 55, m33_), (34, 56, m34_)] ∧ (b 32 = false → Below W3.heap.size W3 w') ∧ (b 32 = true → (yb = true ∧ J (clK L f t k h j ++ [(j : Int)]) w' ∧ Below w.heap.size W3 w') ∨ (yb = false ∧ Jx (clK L f t k h j ++ [(j : Int)]) w')) ∧ (b 32 = true → (m32_ : Value) = .bool yb) ∧ (b 33 = true → (m33_ : Value) = .bool (!yb)) ∧ (b 34 = true → (m34_ : Value) = .bool (!yb))) HT_.out HW_.out (by kernel_rfl) (by kernel_rfl) ?_ ?_ ?_
            · exact ⟨false, .bool false, .bool false, .bool false, by simp only [putSel, Bool.false_eq_true, if_false], fun _ => HBW.out, fun h_ => absurd h_ (by decide), fun h_ => absurd h_ (by decide), fun h_ => absurd h_ (by decide), fun h_ => absurd h_ (by decide)⟩
            · skip
              clear HBW
              refine steps_cons_in ?_ ?_
              · rintro b a w' ⟨yb, m32_, m33_, m34_, ha, Q_HBW, Q_FY, Q_X32_, Q_X33_, Q_X34_⟩ hb_ hon hoff
                refine ⟨_, rfl, fun K hK => ?_⟩
                have e3 : a.tmps[3]? = some (.pointer (some ⟨b3, 0, none⟩)) := by rw [ha]; exact (putSel_off rfl).trans rfl
                replace ha := Aside0.mk ha
                have HBW := Aside0.mk (Q_HBW (hoff 32 (by kernel_rfl)))
                have k0_ := cb HBW.out B3.out
                refine value_in (w1 := w') (v := .int .i64 h) (by rfl) rfl ?_ ?_
                · go_simp
                  (try simp only [i64_w])
                  try rfl
                refine hK.out _ _ ⟨yb, m32_, m33_, m34_, (by rw [ha.out]; exact putSel_upk 0 hb_ rfl rfl rfl), Q_HBW, fun h0_ => absurd ((hoff 32 (by kernel_rfl)).symm.trans h0_) (by decide), fun h0_ => absurd ((hoff 32 (by kernel_rfl)).symm.trans h0_) (by decide), fun h0_ => absurd ((hoff 33 (by kernel_rfl)).symm.trans h0_) (by decide), fun h0_ => absurd ((hoff 34 (by kernel_rfl)).symm.trans h0_) (by decide)⟩
              refine steps_cons_in ?_ ?_
              · rintro b a w' ⟨yb, m32_, m33_, m34_, ha, Q_HBW, Q_FY, Q_X32_, Q_X33_, Q_X34_⟩ hb_ hon hoff
                refine ⟨_, rfl, fun K hK => ?_⟩
                have e7 : a.tmps[7]? = some (.pointer (some ⟨wr.heap.size, 0, none⟩)) := by rw [ha]; exact (putSel_off rfl).trans rfl
                replace ha := Aside0.mk ha
                have HBW := Aside0.mk (Q_HBW (hoff 32 (by kernel_rfl)))
                refine value_in (w1 := w') (v := .pointer (some ⟨wr.heap.size, 6, none⟩)) (by rfl) rfl ?_ ?_
                · go_simp
                  (try simp only [i64_w])
                  try rfl
                refine hK.out _ _ ⟨yb, m32_, m33_, m34_, (by rw [ha.out]; exact putSel_upk 1 hb_ rfl rfl rfl), Q_HBW, fun h0_ => absurd ((hoff 32 (by kernel_rfl)).symm.trans h0_) (by decide), fun h0_ => absurd ((hoff 32 (by kernel_rfl)).symm.trans h0_) (by decide), fun h0_ => absurd ((hoff 33 (by kernel_rfl)).symm.trans h0_) (by decide), fun h0_ => absurd ((hoff 34 (by kernel_rfl)).symm.trans h0_) (by decide)⟩
              refine steps_cons_in ?_ ?_
              · rintro b a w' ⟨yb, m32_, m33_, m34_, ha, Q_HBW, Q_FY, Q_X32_, Q_X33_, Q_X34_⟩ hb_ hon hoff
                refine ⟨_, rfl, fun K hK => ?_⟩
                have e23 : a.tmps[23]? = some (.pointer (some ⟨wr.heap.size, 6, none⟩)) := by rw [ha]; exact putSel_on (e := (1, 23, .pointer (some ⟨wr.heap.size, 6, none⟩))) 1 rfl rfl (hon 1 (by kernel_rfl)) rfl
                replace ha := Aside0.mk ha
                have HBW := Aside0.mk (Q_HBW (hoff 32 (by kernel_rfl)))
                have k0_ := cb HBW.out C6.out
                refine value_in (w1 := w') (v := .int .i64 (rd_T88 (rd_L9 L.ca k) (j : Int)).f1) (by rfl) rfl ?_ ?_
                · go_simp
                  (try simp only [i64_w])
                  try rfl
                refine hK.out _ _ ⟨yb, m32_, m33_, m34_, (by rw [ha.out]; exact putSel_upk 2 hb_ rfl rfl rfl), Q_HBW, fun h0_ => absurd ((hoff 32 (by kernel_rfl)).symm.trans h0_) (by decide), fun h0_ => absurd ((hoff 32 (by kernel_rfl)).symm.trans h0_) (by decide), fun h0_ => absurd ((hoff 33 (by kernel_rfl)).symm.trans h0_) (by decide), fun h0_ => absurd ((hoff 34 (by kernel_rfl)).symm.trans h0_) (by decide)⟩
              refine steps_cons_in ?_ ?_
              · rintro b a w' ⟨yb, m32_, m33_, m34_, ha, Q_HBW, Q_FY, Q_X32_, Q_X33_, Q_X34_⟩ hb_ hon hoff
                refine ⟨_, rfl, fun K hK => ?_⟩
                have e7 : a.tmps[7]? = some (.pointer (some ⟨wr.heap.size, 0, none⟩)) := by rw [ha]; exact (putSel_off rfl).trans rfl
                replace ha := Aside0.mk ha
                have HBW := Aside0.mk (Q_HBW (hoff 32 (by kernel_rfl)))
                refine value_in (w1 := w') (v := .pointer (some ⟨wr.heap.size, 7, none⟩)) (by rfl) rfl ?_ ?_
                · go_simp
                  (try simp only [i64_w])
                  try rfl
                refine hK.out _ _ ⟨yb, m32_, m33_, m34_, (by rw [ha.out]; exact putSel_upk 3 hb_ rfl rfl rfl), Q_HBW, fun h0_ => absurd ((hoff 32 (by kernel_rfl)).symm.trans h0_) (by decide), fun h0_ => absurd ((hoff 32 (by kernel_rfl)).symm.trans h0_) (by decide), fun h0_ => absurd ((hoff 33 (by kernel_rfl)).symm.trans h0_) (by decide), fun h0_ => absurd ((hoff 34 (by kernel_rfl)).symm.trans h0_) (by decide)⟩
              refine steps_cons_in ?_ ?_
              · rintro b a w' ⟨yb, m32_, m33_, m34_, ha, Q_HBW, Q_FY, Q_X32_, Q_X33_, Q_X34_⟩ hb_ hon hoff
                refine ⟨_, rfl, fun K hK => ?_⟩
                have e25 : a.tmps[25]? = some (.pointer (some ⟨wr.heap.size, 7, none⟩)) := by rw [ha]; exact putSel_on (e := (3, 25, .pointer (some ⟨wr.heap.size, 7, none⟩))) 3 rfl rfl (hon 3 (by kernel_rfl)) rfl
                replace ha := Aside0.mk ha
                have HBW := Aside0.mk (Q_HBW (hoff 32 (by kernel_rfl)))
                have k0_ := cb HBW.out C7.out
                refine value_in (w1 := w') (v := .int .i64 (rd_T88 (rd_L9 L.ca k) (j : Int)).f2) (by rfl) rfl ?_ ?_
                · go_simp
                  (try simp only [i64_w])
                  try rfl
                refine hK.out _ _ ⟨yb, m32_, m33_, m34_, (by rw [ha.out]; exact putSel_upk 4 hb_ rfl rfl rfl), Q_HBW, fun h0_ => absurd ((hoff 32 (by kernel_rfl)).symm.trans h0_) (by decide), fun h0_ => absurd ((hoff 32 (by kernel_rfl)).symm.trans h0_) (by decide), fun h0_ => absurd ((hoff 33 (by kernel_rfl)).symm.trans h0_) (by decide), fun h0_ => absurd ((hoff 34 (by kernel_rfl)).symm.trans h0_) (by decide)⟩
              refine steps_cons_in ?_ ?_
              · rintro b a w' ⟨yb, m32_, m33_, m34_, ha, Q_HBW, Q_FY, Q_X32_, Q_X33_, Q_X34_⟩ hb_ hon hoff
                refine ⟨_, rfl, fun K hK => ?_⟩
                have e22 : a.tmps[22]? = some (.int .i64 h) := by rw [ha]; exact putSel_on (e := (0, 22, .int .i64 h)) 0 rfl rfl (hon 0 (by kernel_rfl)) rfl
                have e24 : a.tmps[24]? = some (.int .i64 (rd_T88 (rd_L9 L.ca k) (j : Int)).f1) := by rw [ha]; exact putSel_on (e := (2, 24, .int .i64 (rd_T88 (rd_L9 L.ca k) (j : Int)).f1)) 2 rfl rfl (hon 2 (by kernel_rfl)) rfl
                have e26 : a.tmps[26]? = some (.int .i64 (rd_T88 (rd_L9 L.ca k) (j : Int)).f2) := by rw [ha]; exact putSel_on (e := (4, 26, .int .i64 (rd_T88 (rd_L9 L.ca k) (j : Int)).f2)) 4 rfl rfl (hon 4 (by kernel_rfl)) rfl
                replace ha := Aside0.mk ha
                have HBW := Aside0.mk (Q_HBW (hoff 32 (by kernel_rfl)))
                refine call_in 79 #[.int .i64 h, .int .i64 (rd_T88 (rd_L9 L.ca k) (j : Int)).f1, .int .i64 (rd_T88 (rd_L9 L.ca k) (j : Int)).f2] (by rfl) rfl (by go_simp) ?_
                refine (SW.out _).mono ?_
                rintro e w2 ⟨rfl, rfl⟩
                refine ⟨_, rfl, ?_⟩
                refine hK.out _ _ ⟨yb, m32_, m33_, m34_, (by rw [ha.out]; exact putSel_upk 5 hb_ rfl rfl rfl), fun _ => HBW.out, fun h0_ => absurd ((hoff 32 (by kernel_rfl)).symm.trans h0_) (by decide), fun h0_ => absurd ((hoff 32 (by kernel_rfl)).symm.trans h0_) (by decide), fun h0_ => absurd ((hoff 33 (by kernel_rfl)).symm.trans h0_) (by decide), fun h0_ => absurd ((hoff 34 (by kernel_rfl)).symm.trans h0_) (by decide)⟩
              refine steps_cons_in ?_ ?_
              · rintro b a w' ⟨yb, m32_, m33_, m34_, ha, Q_HBW, Q_FY, Q_X32_, Q_X33_, Q_X34_⟩ hb_ hon hoff
                refine ⟨_, rfl, fun K hK => ?_⟩
                have e27 : a.tmps[27]? = some (.bool true) := by rw [ha]; exact putSel_on (e := (5, 27, .bool true)) 5 rfl rfl (hon 5 (by kernel_rfl)) rfl
                replace ha := Aside0.mk ha
                have HBW := Aside0.mk (Q_HBW (hoff 32 (by kernel_rfl)))
                refine value_in (w1 := w') (v := .bool true) (by rfl) rfl ?_ ?_
                · go_simp
                  (try simp only [i64_w])
                  try rfl
                refine hK.out _ _ ⟨yb, m32_, m33_, m34_, (by rw [ha.out]; exact putSel_upk 6 hb_ rfl rfl rfl), Q_HBW, fun h0_ => absurd ((hoff 32 (by kernel_rfl)).symm.trans h0_) (by decide), fun h0_ => absurd ((hoff 32 (by kernel_rfl)).symm.trans h0_) (by decide), fun h0_ => absurd ((hoff 33 (by kernel_rfl)).symm.trans h0_) (by decide), fun h0_ => absurd ((hoff 34 (by kernel_rfl)).symm.trans h0_) (by decide)⟩
              refine steps_cons_in ?_ ?_
              · rintro b a w' ⟨yb, m32_, m33_, m34_, ha, Q_HBW, Q_FY, Q_X32_, Q_X33_, Q_X34_⟩ hb_ hon hoff
                refine ⟨_, rfl, fun K hK => ?_⟩
                have e7 : a.tmps[7]? = some (.pointer (some ⟨wr.heap.size, 0, none⟩)) := by rw [ha]; exact (putSel_off rfl).trans rfl
                have e28 : a.tmps[28]? = some (.bool true) := by rw [ha]; exact putSel_on (e := (6, 28, .bool true)) 6 rfl rfl (hon 6 (by kernel_rfl)) rfl
                replace ha := Aside0.mk ha
                have HBW := Aside0.mk (Q_HBW (hoff 32 (by kernel_rfl)))
                refine value_in (w1 := w') (v := .pointer (some ⟨wr.heap.size, 0, none⟩)) (wanted_on rfl rfl rfl (e28.trans (by first | rfl | (simp [*]; done)))) rfl ?_ ?_
                · go_simp
                  (try simp only [i64_w])
                  try rfl
                refine hK.out _ _ ⟨yb, m32_, m33_, m34_, (by rw [ha.out]; exact putSel_upk 7 hb_ rfl rfl rfl), Q_HBW, fun h0_ => absurd ((hoff 32 (by kernel_rfl)).symm.trans h0_) (by decide), fun h0_ => absurd ((hoff 32 (by kernel_rfl)).symm.trans h0_) (by decide), fun h0_ => absurd ((hoff 33 (by kernel_rfl)).symm.trans h0_) (by decide), fun h0_ => absurd ((hoff 34 (by kernel_rfl)).symm.trans h0_) (by decide)⟩
              refine steps_cons_in ?_ ?_
              · rintro b a w' ⟨yb, m32_, m33_, m34_, ha, Q_HBW, Q_FY, Q_X32_, Q_X33_, Q_X34_⟩ hb_ hon hoff
                refine ⟨_, rfl, fun K hK => ?_⟩
                have e29 : a.tmps[29]? = some (.pointer (some ⟨wr.heap.size, 0, none⟩)) := by rw [ha]; exact putSel_on (e := (7, 29, .pointer (some ⟨wr.heap.size, 0, none⟩))) 7 rfl rfl (hon 7 (by kernel_rfl)) rfl
                have e28 : a.tmps[28]? = some (.bool true) := by rw [ha]; exact putSel_on (e := (6, 28, .bool true)) 6 rfl rfl (hon 6 (by kernel_rfl)) rfl
                replace ha := Aside0.mk ha
                have HBW := Aside0.mk (Q_HBW (hoff 32 (by kernel_rfl)))
                have k0_ := cb HBW.out C0.out
                have k1_ := cb HBW.out C1.out
                have k2_ := cb HBW.out C2.out
                have k3_ := cb HBW.out C3.out
                have k4_ := cb HBW.out C4.out
                have k5_ := cb HBW.out C5.out
                refine value_in (w1 := w') (v := .agg #[.int .i64 ((rd_T88 (rd_L9 L.ca k) (j : Int)).f0).f0, .int .i64 ((rd_T88 (rd_L9 L.ca k) (j : Int)).f0).f1, .int .i64 ((rd_T88 (rd_L9 L.ca k) (j : Int)).f0).f2, .int .i64 ((rd_T88 (rd_L9 L.ca k) (j : Int)).f0).f3, .int .i64 ((rd_T88 (rd_L9 L.ca k) (j : Int)).f0).f4, .int .i64 ((rd_T88 (rd_L9 L.ca k) (j : Int)).f0).f5]) (wanted_on rfl rfl rfl (e28.trans (by first | rfl | (simp [*]; done)))) rfl ?_ ?_
                · go_simp
                  (try simp only [i64_w])
                  try rfl
                refine hK.out _ _ ⟨yb, m32_, m33_, m34_, (by rw [ha.out]; exact putSel_upk 8 hb_ rfl rfl rfl), Q_HBW, fun h0_ => absurd ((hoff 32 (by kernel_rfl)).symm.trans h0_) (by decide), fun h0_ => absurd ((hoff 32 (by kernel_rfl)).symm.trans h0_) (by decide), fun h0_ => absurd ((hoff 33 (by kernel_rfl)).symm.trans h0_) (by decide), fun h0_ => absurd ((hoff 34 (by kernel_rfl)).symm.trans h0_) (by decide)⟩
              refine steps_cons_in ?_ ?_
              · rintro b a w' ⟨yb, m32_, m33_, m34_, ha, Q_HBW, Q_FY, Q_X32_, Q_X33_, Q_X34_⟩ hb_ hon hoff
                refine ⟨_, rfl, fun K hK => ?_⟩
                have e1 : a.tmps[1]? = some (.pointer (some ⟨b1, 0, none⟩)) := by rw [ha]; exact (putSel_off rfl).trans rfl
                have e28 : a.tmps[28]? = some (.bool true) := by rw [ha]; exact putSel_on (e := (6, 28, .bool true)) 6 rfl rfl (hon 6 (by kernel_rfl)) rfl
                replace ha := Aside0.mk ha
                have HBW := Aside0.mk (Q_HBW (hoff 32 (by kernel_rfl)))
                have k0_ := cb HBW.out B1.out
                refine value_in (w1 := w') (v := .pointer (some ⟨g, 0, none⟩)) (wanted_on rfl rfl rfl (e28.trans (by first | rfl | (simp [*]; done)))) rfl ?_ ?_
                · go_simp
                  (try simp only [i64_w])
                  try rfl
                refine hK.out _ _ ⟨yb, m32_, m33_, m34_, (by rw [ha.out]; exact putSel_upk 9 hb_ rfl rfl rfl), Q_HBW, fun h0_ => absurd ((hoff 32 (by kernel_rfl)).symm.trans h0_) (by decide), fun h0_ => absurd ((hoff 32 (by kernel_rfl)).symm.trans h0_) (by decide), fun h0_ => absurd ((hoff 33 (by kernel_rfl)).symm.trans h0_) (by decide), fun h0_ => absurd ((hoff 34 (by kernel_rfl)).symm.trans h0_) (by decide)⟩
              refine steps_cons_in ?_ ?_
              · rintro b a w' ⟨yb, m32_, m33_, m34_, ha, Q_HBW, Q_FY, Q_X32_, Q_X33_, Q_X34_⟩ hb_ hon hoff
                refine ⟨_, rfl, fun K hK => ?_⟩
                have e31 : a.tmps[31]? = some (.pointer (some ⟨g, 0, none⟩)) := by rw [ha]; exact putSel_on (e := (9, 31, .pointer (some ⟨g, 0, none⟩))) 9 rfl rfl (hon 9 (by kernel_rfl)) rfl
                have e28 : a.tmps[28]? = some (.bool true) := by rw [ha]; exact putSel_on (e := (6, 28, .bool true)) 6 rfl rfl (hon 6 (by kernel_rfl)) rfl
                replace ha := Aside0.mk ha
                have HBW := Aside0.mk (Q_HBW (hoff 32 (by kernel_rfl)))
                refine value_in (w1 := w') (v := .pointer (some ⟨g, 0, none⟩)) (wanted_on rfl rfl rfl (e28.trans (by first | rfl | (simp [*]; done)))) rfl ?_ ?_
                · go_simp
                  (try simp only [i64_w])
                  try rfl
                refine hK.out _ _ ⟨yb, m32_, m33_, m34_, (by rw [ha.out]; exact putSel_upk 10 hb_ rfl rfl rfl), Q_HBW, fun h0_ => absurd ((hoff 32 (by kernel_rfl)).symm.trans h0_) (by decide), fun h0_ => absurd ((hoff 32 (by kernel_rfl)).symm.trans h0_) (by decide), fun h0_ => absurd ((hoff 33 (by kernel_rfl)).symm.trans h0_) (by decide), fun h0_ => absurd ((hoff 34 (by kernel_rfl)).symm.trans h0_) (by decide)⟩
              refine steps_cons_in ?_ ?_
              · rintro b a w' ⟨yb, m32_, m33_, m34_, ha, Q_HBW, Q_FY, Q_X32_, Q_X33_, Q_X34_⟩ hb_ hon hoff
                refine ⟨_, rfl, fun K hK => ?_⟩
                have e32 : a.tmps[32]? = some (.pointer (some ⟨g, 0, none⟩)) := by rw [ha]; exact putSel_on (e := (10, 32, .pointer (some ⟨g, 0, none⟩))) 10 rfl rfl (hon 10 (by kernel_rfl)) rfl
                have e28 : a.tmps[28]? = some (.bool true) := by rw [ha]; exact putSel_on (e := (6, 28, .bool true)) 6 rfl rfl (hon 6 (by kernel_rfl)) rfl
                replace ha := Aside0.mk ha
                have HBW := Aside0.mk (Q_HBW (hoff 32 (by kernel_rfl)))
                refine value_in (w1 := w') (v := .pointer (some ⟨g, 0, none⟩)) (wanted_on rfl rfl rfl (e28.trans (by first | rfl | (simp [*]; done)))) rfl ?_ ?_
                · go_simp
                  (try simp only [i64_w])
                  try rfl
                refine hK.out _ _ ⟨yb, m32_, m33_, m34_, (by rw [ha.out]; exact putSel_upk 11 hb_ rfl rfl rfl), Q_HBW, fun h0_ => absurd ((hoff 32 (by kernel_rfl)).symm.trans h0_) (by decide), fun h0_ => absurd ((hoff 32 (by kernel_rfl)).symm.trans h0_) (by decide), fun h0_ => absurd ((hoff 33 (by kernel_rfl)).symm.trans h0_) (by decide), fun h0_ => absurd ((hoff 34 (by kernel_rfl)).symm.trans h0_) (by decide)⟩
              refine steps_cons_in ?_ ?_
              · rintro b a w' ⟨yb, m32_, m33_, m34_, ha, Q_HBW, Q_FY, Q_X32_, Q_X33_, Q_X34_⟩ hb_ hon hoff
                refine ⟨_, rfl, fun K hK => ?_⟩
                have e33 : a.tmps[33]? = some (.pointer (some ⟨g, 0, none⟩)) := by rw [ha]; exact putSel_on (e := (11, 33, .pointer (some ⟨g, 0, none⟩))) 11 rfl rfl (hon 11 (by kernel_rfl)) rfl
                have e28 : a.tmps[28]? = some (.bool true) := by rw [ha]; exact putSel_on (e := (6, 28, .bool true)) 6 rfl rfl (hon 6 (by kernel_rfl)) rfl
                replace ha := Aside0.mk ha
                have HBW := Aside0.mk (Q_HBW (hoff 32 (by kernel_rfl)))
                refine value_in (w1 := w') (v := .pointer (some ⟨g, 0, none⟩)) (wanted_on rfl rfl rfl (e28.trans (by first | rfl | (simp [*]; done)))) rfl ?_ ?_
                · go_simp
                  (try simp only [i64_w])
                  try rfl
                refine hK.out _ _ ⟨yb, m32_, m33_, m34_, (by rw [ha.out]; exact putSel_upk 12 hb_ rfl rfl rfl), Q_HBW, fun h0_ => absurd ((hoff 32 (by kernel_rfl)).symm.trans h0_) (by decide), fun h0_ => absurd ((hoff 32 (by kernel_rfl)).symm.trans h0_) (by decide), fun h0_ => absurd ((hoff 33 (by kernel_rfl)).symm.trans h0_) (by decide), fun h0_ => absurd ((hoff 34 (by kernel_rfl)).symm.trans h0_) (by decide)⟩
              refine steps_cons_in ?_ ?_
              · rintro b a w' ⟨yb, m32_, m33_, m34_, ha, Q_HBW, Q_FY, Q_X32_, Q_X33_, Q_X34_⟩ hb_ hon hoff
                refine ⟨_, rfl, fun K hK => ?_⟩
                have e34 : a.tmps[34]? = some (.pointer (some ⟨g, 0, none⟩)) := by rw [ha]; exact putSel_on (e := (12, 34, .pointer (some ⟨g, 0, none⟩))) 12 rfl rfl (hon 12 (by kernel_rfl)) rfl
                have e28 : a.tmps[28]? = some (.bool true) := by rw [ha]; exact putSel_on (e := (6, 28, .bool true)) 6 rfl rfl (hon 6 (by kernel_rfl)) rfl
                replace ha := Aside0.mk ha
                have HBW := Aside0.mk (Q_HBW (hoff 32 (by kernel_rfl)))
                have k0_ := cb HBW.out G0.out
                refine value_in (w1 := w') (v := .slice (some ad0) L.st.length L.c0) (wanted_on rfl rfl rfl (e28.trans (by first | rfl | (simp [*]; done)))) rfl ?_ ?_
                · go_simp
                  (try simp only [i64_w])
                  try rfl
                refine hK.out _ _ ⟨yb, m32_, m33_, m34_, (by rw [ha.out]; exact putSel_upk 13 hb_ rfl rfl rfl), Q_HBW, fun h0_ => absurd ((hoff 32 (by kernel_rfl)).symm.trans h0_) (by decide), fun h0_ => absurd ((hoff 32 (by kernel_rfl)).symm.trans h0_) (by decide), fun h0_ => absurd ((hoff 33 (by kernel_rfl)).symm.trans h0_) (by decide), fun h0_ => absurd ((hoff 34 (by kernel_rfl)).symm.trans h0_) (by decide)⟩
              refine steps_cons_in ?_ ?_
              · rintro b a w' ⟨yb, m32_, m33_, m34_, ha, Q_HBW, Q_FY, Q_X32_, Q_X33_, Q_X34_⟩ hb_ hon hoff
                refine ⟨_, rfl, fun K hK => ?_⟩
                have e4 : a.tmps[4]? = some (.pointer (some ⟨b4, 0, none⟩)) := by rw [ha]; exact (putSel_off rfl).trans rfl
                have e28 : a.tmps[28]? = some (.bool true) := by rw [ha]; exact putSel_on (e := (6, 28, .bool true)) 6 rfl rfl (hon 6 (by kernel_rfl)) rfl
                replace ha := Aside0.mk ha
                have HBW := Aside0.mk (Q_HBW (hoff 32 (by kernel_rfl)))
                refine value_in (w1 := w') (v := .pointer (some ⟨b4, 0, none⟩)) (wanted_on rfl rfl rfl (e28.trans (by first | rfl | (simp [*]; done)))) rfl ?_ ?_
                · go_simp
                  (try simp only [i64_w])
                  try rfl
                refine hK.out _ _ ⟨yb, m32_, m33_, m34_, (by rw [ha.out]; exact putSel_upk 14 hb_ rfl rfl rfl), Q_HBW, fun h0_ => absurd ((hoff 32 (by kernel_rfl)).symm.trans h0_) (by decide), fun h0_ => absurd ((hoff 32 (by kernel_rfl)).symm.trans h0_) (by decide), fun h0_ => absurd ((hoff 33 (by kernel_rfl)).symm.trans h0_) (by decide), fun h0_ => absurd ((hoff 34 (by kernel_rfl)).symm.trans h0_) (by decide)⟩
              refine steps_cons_in ?_ ?_
              · rintro b a w' ⟨yb, m32_, m33_, m34_, ha, Q_HBW, Q_FY, Q_X32_, Q_X33_, Q_X34_⟩ hb_ hon hoff
                refine ⟨_, rfl, fun K hK => ?_⟩
                have e36 : a.tmps[36]? = some (.pointer (some ⟨b4, 0, none⟩)) := by rw [ha]; exact putSel_on (e := (14, 36, .pointer (some ⟨b4, 0, none⟩))) 14 rfl rfl (hon 14 (by kernel_rfl)) rfl
                have e28 : a.tmps[28]? = some (.bool true) := by rw [ha]; exact putSel_on (e := (6, 28, .bool true)) 6 rfl rfl (hon 6 (by kernel_rfl)) rfl
                replace ha := Aside0.mk ha
                have HBW := Aside0.mk (Q_HBW (hoff 32 (by kernel_rfl)))
                have k0_ := cb HBW.out B40.out
                refine value_in (w1 := w') (v := .int .i64 f) (wanted_on rfl rfl rfl (e28.trans (by first | rfl | (simp [*]; done)))) rfl ?_ ?_
                · go_simp
                  (try simp only [i64_w])
                  try rfl
                refine hK.out _ _ ⟨yb, m32_, m33_, m34_, (by rw [ha.out]; exact putSel_upk 15 hb_ rfl rfl rfl), Q_HBW, fun h0_ => absurd ((hoff 32 (by kernel_rfl)).symm.trans h0_) (by decide), fun h0_ => absurd ((hoff 32 (by kernel_rfl)).symm.trans h0_) (by decide), fun h0_ => absurd ((hoff 33 (by kernel_rfl)).symm.trans h0_) (by decide), fun h0_ => absurd ((hoff 34 (by kernel_rfl)).symm.trans h0_) (by decide)⟩
              refine steps_cons_in ?_ ?_
              · rintro b a w' ⟨yb, m32_, m33_, m34_, ha, Q_HBW, Q_FY, Q_X32_, Q_X33_, Q_X34_⟩ hb_ hon hoff
                refine ⟨_, rfl, fun K hK => ?_⟩
                have e35 : a.tmps[35]? = some (.slice (some ad0) L.st.length L.c0) := by rw [ha]; exact putSel_on (e := (13, 35, .slice (some ad0) L.st.length L.c0)) 13 rfl rfl (hon 13 (by kernel_rfl)) rfl
                have e37 : a.tmps[37]? = some (.int .i64 f) := by rw [ha]; exact putSel_on (e := (15, 37, .int .i64 f)) 15 rfl rfl (hon 15 (by kernel_rfl)) rfl
                have e28 : a.tmps[28]? = some (.bool true) := by rw [ha]; exact putSel_on (e := (6, 28, .bool true)) 6 rfl rfl (hon 6 (by kernel_rfl)) rfl
                replace ha := Aside0.mk ha
                have HBW := Aside0.mk (Q_HBW (hoff 32 (by kernel_rfl)))
                refine value_in (w1 := w') (v := .pointer (some (ad0.add (f.toNat * 4)))) (wanted_on rfl rfl rfl (e28.trans (by first | rfl | (simp [*]; done)))) rfl ?_ ?_
                · go_simp
                  (try simp only [i64_w])
                  try rfl
                refine hK.out _ _ ⟨yb, m32_, m33_, m34_, (by rw [ha.out]; exact putSel_upk 16 hb_ rfl rfl rfl), Q_HBW, fun h0_ => absurd ((hoff 32 (by kernel_rfl)).symm.trans h0_) (by decide), fun h0_ => absurd ((hoff 32 (by kernel_rfl)).symm.trans h0_) (by decide), fun h0_ => absurd ((hoff 33 (by kernel_rfl)).symm.trans h0_) (by decide), fun h0_ => absurd ((hoff 34 (by kernel_rfl)).symm.trans h0_) (by decide)⟩
              refine steps_cons_in ?_ ?_
              · rintro b a w' ⟨yb, m32_, m33_, m34_, ha, Q_HBW, Q_FY, Q_X32_, Q_X33_, Q_X34_⟩ hb_ hon hoff
                refine ⟨_, rfl, fun K hK => ?_⟩
                have e38 : a.tmps[38]? = some (.pointer (some (ad0.add (f.toNat * 4)))) := by rw [ha]; exact putSel_on (e := (16, 38, .pointer (some (ad0.add (f.toNat * 4))))) 16 rfl rfl (hon 16 (by kernel_rfl)) rfl
                have e28 : a.tmps[28]? = some (.bool true) := by rw [ha]; exact putSel_on (e := (6, 28, .bool true)) 6 rfl rfl (hon 6 (by kernel_rfl)) rfl
                replace ha := Aside0.mk ha
                have HBW := Aside0.mk (Q_HBW (hoff 32 (by kernel_rfl)))
                have k0_ := cb HBW.out X0.out
                have k1_ := cb HBW.out X1.out
                have k2_ := cb HBW.out X2.out
                have k3_ := cb HBW.out X3.out
                refine value_in (w1 := w') (v := .agg #[.int .i64 (rd_T85 L.st f).f0, .int .i64 (rd_T85 L.st f).f1, .int .i64 (rd_T85 L.st f).f2, .int .i64 (rd_T85 L.st f).f3]) (wanted_on rfl rfl rfl (e28.trans (by first | rfl | (simp [*]; done)))) rfl ?_ ?_
                · go_simp
                  (try simp only [i64_w])
                  try rfl
                refine hK.out _ _ ⟨yb, m32_, m33_, m34_, (by rw [ha.out]; exact putSel_upk 17 hb_ rfl rfl rfl), Q_HBW, fun h0_ => absurd ((hoff 32 (by kernel_rfl)).symm.trans h0_) (by decide), fun h0_ => absurd ((hoff 32 (by kernel_rfl)).symm.trans h0_) (by decide), fun h0_ => absurd ((hoff 33 (by kernel_rfl)).symm.trans h0_) (by decide), fun h0_ => absurd ((hoff 34 (by kernel_rfl)).symm.trans h0_) (by decide)⟩
              refine steps_cons_in ?_ ?_
              · rintro b a w' ⟨yb, m32_, m33_, m34_, ha, Q_HBW, Q_FY, Q_X32_, Q_X33_, Q_X34_⟩ hb_ hon hoff
                refine ⟨_, rfl, fun K hK => ?_⟩
                have e1 : a.tmps[1]? = some (.pointer (some ⟨b1, 0, none⟩)) := by rw [ha]; exact (putSel_off rfl).trans rfl
                have e28 : a.tmps[28]? = some (.bool true) := by rw [ha]; exact putSel_on (e := (6, 28, .bool true)) 6 rfl rfl (hon 6 (by kernel_rfl)) rfl
                replace ha := Aside0.mk ha
                have HBW := Aside0.mk (Q_HBW (hoff 32 (by kernel_rfl)))
                have k0_ := cb HBW.out B1.out
                refine value_in (w1 := w') (v := .pointer (some ⟨g, 0, none⟩)) (wanted_on rfl rfl rfl (e28.trans (by first | rfl | (simp [*]; done)))) rfl ?_ ?_
                · go_simp
                  (try simp only [i64_w])
                  try rfl
                refine hK.out _ _ ⟨yb, m32_, m33_, m34_, (by rw [ha.out]; exact putSel_upk 18 hb_ rfl rfl rfl), Q_HBW, fun h0_ => absurd ((hoff 32 (by kernel_rfl)).symm.trans h0_) (by decide), fun h0_ => absurd ((hoff 32 (by kernel_rfl)).symm.trans h0_) (by decide), fun h0_ => absurd ((hoff 33 (by kernel_rfl)).symm.trans h0_) (by decide), fun h0_ => absurd ((hoff 34 (by kernel_rfl)).symm.trans h0_) (by decide)⟩
              refine steps_cons_in ?_ ?_
              · rintro b a w' ⟨yb, m32_, m33_, m34_, ha, Q_HBW, Q_FY, Q_X32_, Q_X33_, Q_X34_⟩ hb_ hon hoff
                refine ⟨_, rfl, fun K hK => ?_⟩
                have e40 : a.tmps[40]? = some (.pointer (some ⟨g, 0, none⟩)) := by rw [ha]; exact putSel_on (e := (18, 40, .pointer (some ⟨g, 0, none⟩))) 18 rfl rfl (hon 18 (by kernel_rfl)) rfl
                have e28 : a.tmps[28]? = some (.bool true) := by rw [ha]; exact putSel_on (e := (6, 28, .bool true)) 6 rfl rfl (hon 6 (by kernel_rfl)) rfl
                replace ha := Aside0.mk ha
                have HBW := Aside0.mk (Q_HBW (hoff 32 (by kernel_rfl)))
                refine value_in (w1 := w') (v := .pointer (some ⟨g, 0, none⟩)) (wanted_on rfl rfl rfl (e28.trans (by first | rfl | (simp [*]; done)))) rfl ?_ ?_
                · go_simp
                  (try simp only [i64_w])
                  try rfl
                refine hK.out _ _ ⟨yb, m32_, m33_, m34_, (by rw [ha.out]; exact putSel_upk 19 hb_ rfl rfl rfl), Q_HBW, fun h0_ => absurd ((hoff 32 (by kernel_rfl)).symm.trans h0_) (by decide), fun h0_ => absurd ((hoff 32 (by kernel_rfl)).symm.trans h0_) (by decide), fun h0_ => absurd ((hoff 33 (by kernel_rfl)).symm.trans h0_) (by decide), fun h0_ => absurd ((hoff 34 (by kernel_rfl)).symm.trans h0_) (by decide)⟩
              refine steps_cons_in ?_ ?_
              · rintro b a w' ⟨yb, m32_, m33_, m34_, ha, Q_HBW, Q_FY, Q_X32_, Q_X33_, Q_X34_⟩ hb_ hon hoff
                refine ⟨_, rfl, fun K hK => ?_⟩
                have e41 : a.tmps[41]? = some (.pointer (some ⟨g, 0, none⟩)) := by rw [ha]; exact putSel_on (e := (19, 41, .pointer (some ⟨g, 0, none⟩))) 19 rfl rfl (hon 19 (by kernel_rfl)) rfl
                have e28 : a.tmps[28]? = some (.bool true) := by rw [ha]; exact putSel_on (e := (6, 28, .bool true)) 6 rfl rfl (hon 6 (by kernel_rfl)) rfl
                replace ha := Aside0.mk ha
                have HBW := Aside0.mk (Q_HBW (hoff 32 (by kernel_rfl)))
                refine value_in (w1 := w') (v := .pointer (some ⟨g, 0, none⟩)) (wanted_on rfl rfl rfl (e28.trans (by first | rfl | (simp [*]; done)))) rfl ?_ ?_
                · go_simp
                  (try simp only [i64_w])
                  try rfl
                refine hK.out _ _ ⟨yb, m32_, m33_, m34_, (by rw [ha.out]; exact putSel_upk 20 hb_ rfl rfl rfl), Q_HBW, fun h0_ => absurd ((hoff 32 (by kernel_rfl)).symm.trans h0_) (by decide), fun h0_ => absurd ((hoff 32 (by kernel_rfl)).symm.trans h0_) (by decide), fun h0_ => absurd ((hoff 33 (by kernel_rfl)).symm.trans h0_) (by decide), fun h0_ => absurd ((hoff 34 (by kernel_rfl)).symm.trans h0_) (by decide)⟩
              refine steps_cons_in ?_ ?_
              · rintro b a w' ⟨yb, m32_, m33_, m34_, ha, Q_HBW, Q_FY, Q_X32_, Q_X33_, Q_X34_⟩ hb_ hon hoff
                refine ⟨_, rfl, fun K hK => ?_⟩
                have e42 : a.tmps[42]? = some (.pointer (some ⟨g, 0, none⟩)) := by rw [ha]; exact putSel_on (e := (20, 42, .pointer (some ⟨g, 0, none⟩))) 20 rfl rfl (hon 20 (by kernel_rfl)) rfl
                have e28 : a.tmps[28]? = some (.bool true) := by rw [ha]; exact putSel_on (e := (6, 28, .bool true)) 6 rfl rfl (hon 6 (by kernel_rfl)) rfl
                replace ha := Aside0.mk ha
                have HBW := Aside0.mk (Q_HBW (hoff 32 (by kernel_rfl)))
                refine value_in (w1 := w') (v := .pointer (some ⟨g, 0, none⟩)) (wanted_on rfl rfl rfl (e28.trans (by first | rfl | (simp [*]; done)))) rfl ?_ ?_
                · go_simp
                  (try simp only [i64_w])
                  try rfl
                refine hK.out _ _ ⟨yb, m32_, m33_, m34_, (by rw [ha.out]; exact putSel_upk 21 hb_ rfl rfl rfl), Q_HBW, fun h0_ => absurd ((hoff 32 (by kernel_rfl)).symm.trans h0_) (by decide), fun h0_ => absurd ((hoff 32 (by kernel_rfl)).symm.trans h0_) (by decide), fun h0_ => absurd ((hoff 33 (by kernel_rfl)).symm.trans h0_) (by decide), fun h0_ => absurd ((hoff 34 (by kernel_rfl)).symm.trans h0_) (by decide)⟩
              refine steps_cons_in ?_ ?_
              · rintro b a w' ⟨yb, m32_, m33_, m34_, ha, Q_HBW, Q_FY, Q_X32_, Q_X33_, Q_X34_⟩ hb_ hon hoff
                refine ⟨_, rfl, fun K hK => ?_⟩
                have e43 : a.tmps[43]? = some (.pointer (some ⟨g, 0, none⟩)) := by rw [ha]; exact putSel_on (e := (21, 43, .pointer (some ⟨g, 0, none⟩))) 21 rfl rfl (hon 21 (by kernel_rfl)) rfl
                have e28 : a.tmps[28]? = some (.bool true) := by rw [ha]; exact putSel_on (e := (6, 28, .bool true)) 6 rfl rfl (hon 6 (by kernel_rfl)) rfl
                replace ha := Aside0.mk ha
                have HBW := Aside0.mk (Q_HBW (hoff 32 (by kernel_rfl)))
                have k0_ := cb HBW.out G0.out
                refine value_in (w1 := w') (v := .slice (some ad0) L.st.length L.c0) (wanted_on rfl rfl rfl (e28.trans (by first | rfl | (simp [*]; done)))) rfl ?_ ?_
                · go_simp
                  (try simp only [i64_w])
                  try rfl
                refine hK.out _ _ ⟨yb, m32_, m33_, m34_, (by rw [ha.out]; exact putSel_upk 22 hb_ rfl rfl rfl), Q_HBW, fun h0_ => absurd ((hoff 32 (by kernel_rfl)).symm.trans h0_) (by decide), fun h0_ => absurd ((hoff 32 (by kernel_rfl)).symm.trans h0_) (by decide), fun h0_ => absurd ((hoff 33 (by kernel_rfl)).symm.trans h0_) (by decide), fun h0_ => absurd ((hoff 34 (by kernel_rfl)).symm.trans h0_) (by decide)⟩
              refine steps_cons_in ?_ ?_
              · rintro b a w' ⟨yb, m32_, m33_, m34_, ha, Q_HBW, Q_FY, Q_X32_, Q_X33_, Q_X34_⟩ hb_ hon hoff
                refine ⟨_, rfl, fun K hK => ?_⟩
                have e4 : a.tmps[4]? = some (.pointer (some ⟨b4, 0, none⟩)) := by rw [ha]; exact (putSel_off rfl).trans rfl
                have e28 : a.tmps[28]? = some (.bool true) := by rw [ha]; exact putSel_on (e := (6, 28, .bool true)) 6 rfl rfl (hon 6 (by kernel_rfl)) rfl
                replace ha := Aside0.mk ha
                have HBW := Aside0.mk (Q_HBW (hoff 32 (by kernel_rfl)))
                refine value_in (w1 := w') (v := .pointer (some ⟨b4, 1, none⟩)) (wanted_on rfl rfl rfl (e28.trans (by first | rfl | (simp [*]; done)))) rfl ?_ ?_
                · go_simp
                  (try simp only [i64_w])
                  try rfl
                refine hK.out _ _ ⟨yb, m32_, m33_, m34_, (by rw [ha.out]; exact putSel_upk 23 hb_ rfl rfl rfl), Q_HBW, fun h0_ => absurd ((hoff 32 (by kernel_rfl)).symm.trans h0_) (by decide), fun h0_ => absurd ((hoff 32 (by kernel_rfl)).symm.trans h0_) (by decide), fun h0_ => absurd ((hoff 33 (by kernel_rfl)).symm.trans h0_) (by decide), fun h0_ => absurd ((hoff 34 (by kernel_rfl)).symm.trans h0_) (by decide)⟩
              refine steps_cons_in ?_ ?_
              · rintro b a w' ⟨yb, m32_, m33_, m34_, ha, Q_HBW, Q_FY, Q_X32_, Q_X33_, Q_X34_⟩ hb_ hon hoff
                refine ⟨_, rfl, fun K hK => ?_⟩
                have e45 : a.tmps[45]? = some (.pointer (some ⟨b4, 1, none⟩)) := by rw [ha]; exact putSel_on (e := (23, 45, .pointer (some ⟨b4, 1, none⟩))) 23 rfl rfl (hon 23 (by kernel_rfl)) rfl
                have e28 : a.tmps[28]? = some (.bool true) := by rw [ha]; exact putSel_on (e := (6, 28, .bool true)) 6 rfl rfl (hon 6 (by kernel_rfl)) rfl
                replace ha := Aside0.mk ha
                have HBW := Aside0.mk (Q_HBW (hoff 32 (by kernel_rfl)))
                have k0_ := cb HBW.out B41.out
                refine value_in (w1 := w') (v := .int .i64 t) (wanted_on rfl rfl rfl (e28.trans (by first | rfl | (simp [*]; done)))) rfl ?_ ?_
                · go_simp
                  (try simp only [i64_w])
                  try rfl
                refine hK.out _ _ ⟨yb, m32_, m33_, m34_, (by rw [ha.out]; exact putSel_upk 24 hb_ rfl rfl rfl), Q_HBW, fun h0_ => absurd ((hoff 32 (by kernel_rfl)).symm.trans h0_) (by decide), fun h0_ => absurd ((hoff 32 (by kernel_rfl)).symm.trans h0_) (by decide), fun h0_ => absurd ((hoff 33 (by kernel_rfl)).symm.trans h0_) (by decide), fun h0_ => absurd ((hoff 34 (by kernel_rfl)).symm.trans h0_) (by decide)⟩
              refine steps_cons_in ?_ ?_
              · rintro b a w' ⟨yb, m32_, m33_, m34_, ha, Q_HBW, Q_FY, Q_X32_, Q_X33_, Q_X34_⟩ hb_ hon hoff
                refine ⟨_, rfl, fun K hK => ?_⟩
                have e44 : a.tmps[44]? = some (.slice (some ad0) L.st.length L.c0) := by rw [ha]; exact putSel_on (e := (22, 44, .slice (some ad0) L.st.length L.c0)) 22 rfl rfl (hon 22 (by kernel_rfl)) rfl
                have e46 : a.tmps[46]? = some (.int .i64 t) := by rw [ha]; exact putSel_on (e := (24, 46, .int .i64 t)) 24 rfl rfl (hon 24 (by kernel_rfl)) rfl
                have e28 : a.tmps[28]? = some (.bool true) := by rw [ha]; exact putSel_on (e := (6, 28, .bool true)) 6 rfl rfl (hon 6 (by kernel_rfl)) rfl
                replace ha := Aside0.mk ha
                have HBW := Aside0.mk (Q_HBW (hoff 32 (by kernel_rfl)))
                refine value_in (w1 := w') (v := .pointer (some (ad0.add (t.toNat * 4)))) (wanted_on rfl rfl rfl (e28.trans (by first | rfl | (simp [*]; done)))) rfl ?_ ?_
                · go_simp
                  (try simp only [i64_w])
                  try rfl
                refine hK.out _ _ ⟨yb, m32_, m33_, m34_, (by rw [ha.out]; exact putSel_upk 25 hb_ rfl rfl rfl), Q_HBW, fun h0_ => absurd ((hoff 32 (by kernel_rfl)).symm.trans h0_) (by decide), fun h0_ => absurd ((hoff 32 (by kernel_rfl)).symm.trans h0_) (by decide), fun h0_ => absurd ((hoff 33 (by kernel_rfl)).symm.trans h0_) (by decide), fun h0_ => absurd ((hoff 34 (by kernel_rfl)).symm.trans h0_) (by decide)⟩
              refine steps_cons_in ?_ ?_
              · rintro b a w' ⟨yb, m32_, m33_, m34_, ha, Q_HBW, Q_FY, Q_X32_, Q_X33_, Q_X34_⟩ hb_ hon hoff
                refine ⟨_, rfl, fun K hK => ?_⟩
                have e47 : a.tmps[47]? = some (.pointer (some (ad0.add (t.toNat * 4)))) := by rw [ha]; exact putSel_on (e := (25, 47, .pointer (some (ad0.add (t.toNat * 4))))) 25 rfl rfl (hon 25 (by kernel_rfl)) rfl
                have e28 : a.tmps[28]? = some (.bool true) := by rw [ha]; exact putSel_on (e := (6, 28, .bool true)) 6 rfl rfl (hon 6 (by kernel_rfl)) rfl
                replace ha := Aside0.mk ha
                have HBW := Aside0.mk (Q_HBW (hoff 32 (by kernel_rfl)))
                have k0_ := cb HBW.out Y0.out
                have k1_ := cb HBW.out Y1.out
                have k2_ := cb HBW.out Y2.out
                have k3_ := cb HBW.out Y3.out
                refine value_in (w1 := w') (v := .agg #[.int .i64 (rd_T85 L.st t).f0, .int .i64 (rd_T85 L.st t).f1, .int .i64 (rd_T85 L.st t).f2, .int .i64 (rd_T85 L.st t).f3]) (wanted_on rfl rfl rfl (e28.trans (by first | rfl | (simp [*]; done)))) rfl ?_ ?_
                · go_simp
                  (try simp only [i64_w])
                  try rfl
                refine hK.out _ _ ⟨yb, m32_, m33_, m34_, (by rw [ha.out]; exact putSel_upk 26 hb_ rfl rfl rfl), Q_HBW, fun h0_ => absurd ((hoff 32 (by kernel_rfl)).symm.trans h0_) (by decide), fun h0_ => absurd ((hoff 32 (by kernel_rfl)).symm.trans h0_) (by decide), fun h0_ => absurd ((hoff 33 (by kernel_rfl)).symm.trans h0_) (by decide), fun h0_ => absurd ((hoff 34 (by kernel_rfl)).symm.trans h0_) (by decide)⟩
              refine steps_cons_in ?_ ?_
              · rintro b a w' ⟨yb, m32_, m33_, m34_, ha, Q_HBW, Q_FY, Q_X32_, Q_X33_, Q_X34_⟩ hb_ hon hoff
                refine ⟨_, rfl, fun K hK => ?_⟩
                have e30 : a.tmps[30]? = some (.agg #[.int .i64 ((rd_T88 (rd_L9 L.ca k) (j : Int)).f0).f0, .int .i64 ((rd_T88 (rd_L9 L.ca k) (j : Int)).f0).f1, .int .i64 ((rd_T88 (rd_L9 L.ca k) (j : Int)).f0).f2, .int .i64 ((rd_T88 (rd_L9 L.ca k) (j : Int)).f0).f3, .int .i64 ((rd_T88 (rd_L9 L.ca k) (j : Int)).f0).f4, .int .i64 ((rd_T88 (rd_L9 L.ca k) (j : Int)).f0).f5]) := by rw [ha]; exact putSel_on (e := (8, 30, .agg #[.int .i64 ((rd_T88 (rd_L9 L.ca k) (j : Int)).f0).f0, .int .i64 ((rd_T88 (rd_L9 L.ca k) (j : Int)).f0).f1, .int .i64 ((rd_T88 (rd_L9 L.ca k) (j : Int)).f0).f2, .int .i64 ((rd_T88 (rd_L9 L.ca k) (j : Int)).f0).f3, .int .i64 ((rd_T88 (rd_L9 L.ca k) (j : Int)).f0).f4, .int .i64 ((rd_T88 (rd_L9 L.ca k) (j : Int)).f0).f5])) 8 rfl rfl (hon 8 (by kernel_rfl)) rfl
                have e39 : a.tmps[39]? = some (.agg #[.int .i64 (rd_T85 L.st f).f0, .int .i64 (rd_T85 L.st f).f1, .int .i64 (rd_T85 L.st f).f2, .int .i64 (rd_T85 L.st f).f3]) := by rw [ha]; exact putSel_on (e := (17, 39, .agg #[.int .i64 (rd_T85 L.st f).f0, .int .i64 (rd_T85 L.st f).f1, .int .i64 (rd_T85 L.st f).f2, .int .i64 (rd_T85 L.st f).f3])) 17 rfl rfl (hon 17 (by kernel_rfl)) rfl
                have e48 : a.tmps[48]? = some (.agg #[.int .i64 (rd_T85 L.st t).f0, .int .i64 (rd_T85 L.st t).f1, .int .i64 (rd_T85 L.st t).f2, .int .i64 (rd_T85 L.st t).f3]) := by rw [ha]; exact putSel_on (e := (26, 48, .agg #[.int .i64 (rd_T85 L.st t).f0, .int .i64 (rd_T85 L.st t).f1, .int .i64 (rd_T85 L.st t).f2, .int .i64 (rd_T85 L.st t).f3])) 26 rfl rfl (hon 26 (by kernel_rfl)) rfl
                have e28 : a.tmps[28]? = some (.bool true) := by rw [ha]; exact putSel_on (e := (6, 28, .bool true)) 6 rfl rfl (hon 6 (by kernel_rfl)) rfl
                replace ha := Aside0.mk ha
                have HBW := Aside0.mk (Q_HBW (hoff 32 (by kernel_rfl)))
                refine call_in 56 #[.agg #[.int .i64 ((rd_T88 (rd_L9 L.ca k) (j : Int)).f0).f0, .int .i64 ((rd_T88 (rd_L9 L.ca k) (j : Int)).f0).f1, .int .i64 ((rd_T88 (rd_L9 L.ca k) (j : Int)).f0).f2, .int .i64 ((rd_T88 (rd_L9 L.ca k) (j : Int)).f0).f3, .int .i64 ((rd_T88 (rd_L9 L.ca k) (j : Int)).f0).f4, .int .i64 ((rd_T88 (rd_L9 L.ca k) (j : Int)).f0).f5], .agg #[.int .i64 (rd_T85 L.st f).f0, .int .i64 (rd_T85 L.st f).f1, .int .i64 (rd_T85 L.st f).f2, .int .i64 (rd_T85 L.st f).f3], .agg #[.int .i64 (rd_T85 L.st t).f0, .int .i64 (rd_T85 L.st t).f1, .int .i64 (rd_T85 L.st t).f2, .int .i64 (rd_T85 L.st t).f3]] (wanted_on rfl rfl rfl (e28.trans (by first | rfl | (simp [*]; done)))) rfl (by go_simp) ?_
                refine (SB.out _).mono ?_
                rintro e w2 ⟨rfl, hbb⟩
                refine ⟨_, rfl, ?_⟩
                refine hK.out _ _ ⟨yb, m32_, m33_, m34_, (by rw [ha.out]; exact putSel_upk 27 hb_ rfl rfl rfl), fun _ => bt HBW.out hbb, fun h0_ => absurd ((hoff 32 (by kernel_rfl)).symm.trans h0_) (by decide), fun h0_ => absurd ((hoff 32 (by kernel_rfl)).symm.trans h0_) (by decide), fun h0_ => absurd ((hoff 33 (by kernel_rfl)).symm.trans h0_) (by decide), fun h0_ => absurd ((hoff 34 (by kernel_rfl)).symm.trans h0_) (by decide)⟩
              refine steps_cons_in ?_ ?_
              · rintro b a w' ⟨yb, m32_, m33_, m34_, ha, Q_HBW, Q_FY, Q_X32_, Q_X33_, Q_X34_⟩ hb_ hon hoff
                refine ⟨_, rfl, fun K hK => ?_⟩
                have e28 : a.tmps[28]? = some (.bool true) := by rw [ha]; exact putSel_on (e := (6, 28, .bool true)) 6 rfl rfl (hon 6 (by kernel_rfl)) rfl
                have e49 : a.tmps[49]? = some (.bool true) := by rw [ha]; exact putSel_on (e := (27, 49, .bool true)) 27 rfl rfl (hon 27 (by kernel_rfl)) rfl
                replace ha := Aside0.mk ha
                have HBW := Aside0.mk (Q_HBW (hoff 32 (by kernel_rfl)))
                refine value_in (w1 := w') (v := .bool true) (by rfl) rfl ?_ ?_
                · go_simp
                  (try simp only [i64_w])
                  try rfl
                refine hK.out _ _ ⟨yb, m32_, m33_, m34_, (by rw [ha.out]; exact putSel_upk 28 hb_ rfl rfl rfl), Q_HBW, fun h0_ => absurd ((hoff 32 (by kernel_rfl)).symm.trans h0_) (by decide), fun h0_ => absurd ((hoff 32 (by kernel_rfl)).symm.trans h0_) (by decide), fun h0_ => absurd ((hoff 33 (by kernel_rfl)).symm.trans h0_) (by decide), fun h0_ => absurd ((hoff 34 (by kernel_rfl)).symm.trans h0_) (by decide)⟩
              refine steps_cons_in ?_ ?_
              · rintro b a w' ⟨yb, m32_, m33_, m34_, ha, Q_HBW, Q_FY, Q_X32_, Q_X33_, Q_X34_⟩ hb_ hon hoff
                refine ⟨_, rfl, fun K hK => ?_⟩
                have e50 : a.tmps[50]? = some (.bool true) := by rw [ha]; exact putSel_on (e := (28, 50, .bool true)) 28 rfl rfl (hon 28 (by kernel_rfl)) rfl
                replace ha := Aside0.mk ha
                have HBW := Aside0.mk (Q_HBW (hoff 32 (by kernel_rfl)))
                refine value_in (w1 := w') (v := .bool true) (by rfl) rfl ?_ ?_
                · go_simp
                  (try simp only [i64_w])
                  try rfl
                refine hK.out _ _ ⟨yb, m32_, m33_, m34_, (by rw [ha.out]; exact putSel_upk 29 hb_ rfl rfl rfl), Q_HBW, fun h0_ => absurd ((hoff 32 (by kernel_rfl)).symm.trans h0_) (by decide), fun h0_ => absurd ((hoff 32 (by kernel_rfl)).symm.trans h0_) (by decide), fun h0_ => absurd ((hoff 33 (by kernel_rfl)).symm.trans h0_) (by decide), fun h0_ => absurd ((hoff 34 (by kernel_rfl)).symm.trans h0_) (by decide)⟩
              refine steps_cons_in ?_ ?_
              · rintro b a w' ⟨yb, m32_, m33_, m34_, ha, Q_HBW, Q_FY, Q_X32_, Q_X33_, Q_X34_⟩ hb_ hon hoff
                refine ⟨_, rfl, fun K hK => ?_⟩
                have e0 : a.tmps[0]? = some (.func (.yield l) #[] #[]) := by rw [ha]; exact (putSel_off rfl).trans rfl
                have e51 : a.tmps[51]? = some (.bool true) := by rw [ha]; exact putSel_on (e := (29, 51, .bool true)) 29 rfl rfl (hon 29 (by kernel_rfl)) rfl
                replace ha := Aside0.mk ha
                have HBW := Aside0.mk (Q_HBW (hoff 32 (by kernel_rfl)))
                refine value_in (w1 := w') (v := .func (.yield l) #[] #[]) (wanted_on rfl rfl rfl (e51.trans (by first | rfl | (simp [*]; done)))) rfl ?_ ?_
                · go_simp
                  (try simp only [i64_w])
                  try rfl
                refine hK.out _ _ ⟨yb, m32_, m33_, m34_, (by rw [ha.out]; exact putSel_upk 30 hb_ rfl rfl rfl), Q_HBW, fun h0_ => absurd ((hoff 32 (by kernel_rfl)).symm.trans h0_) (by decide), fun h0_ => absurd ((hoff 32 (by kernel_rfl)).symm.trans h0_) (by decide), fun h0_ => absurd ((hoff 33 (by kernel_rfl)).symm.trans h0_) (by decide), fun h0_ => absurd ((hoff 34 (by kernel_rfl)).symm.trans h0_) (by decide)⟩
              refine steps_cons_in ?_ ?_
              · rintro b a w' ⟨yb, m32_, m33_, m34_, ha, Q_HBW, Q_FY, Q_X32_, Q_X33_, Q_X34_⟩ hb_ hon hoff
                refine ⟨_, rfl, fun K hK => ?_⟩
                have e6 : a.tmps[6]? = some (.int .i64 (j : Int)) := by rw [ha]; exact (putSel_off rfl).trans rfl
                have e51 : a.tmps[51]? = some (.bool true) := by rw [ha]; exact putSel_on (e := (29, 51, .bool true)) 29 rfl rfl (hon 29 (by kernel_rfl)) rfl
                replace ha := Aside0.mk ha
                have HBW := Aside0.mk (Q_HBW (hoff 32 (by kernel_rfl)))
                refine value_in (w1 := w') (v := .int .i64 (j : Int)) (wanted_on rfl rfl rfl (e51.trans (by first | rfl | (simp [*]; done)))) rfl ?_ ?_
                · go_simp
                  (try simp only [i64_w])
                  try rfl
                refine hK.out _ _ ⟨yb, m32_, m33_, m34_, (by rw [ha.out]; exact putSel_upk 31 hb_ rfl rfl rfl), Q_HBW, fun h0_ => absurd ((hoff 32 (by kernel_rfl)).symm.trans h0_) (by decide), fun h0_ => absurd ((hoff 32 (by kernel_rfl)).symm.trans h0_) (by decide), fun h0_ => absurd ((hoff 33 (by kernel_rfl)).symm.trans h0_) (by decide), fun h0_ => absurd ((hoff 34 (by kernel_rfl)).symm.trans h0_) (by decide)⟩
              refine steps_cons_in ?_ ?_
              · rintro b a w' ⟨yb, m32_, m33_, m34_, ha, Q_HBW, Q_FY, Q_X32_, Q_X33_, Q_X34_⟩ hb_ hon hoff
                refine ⟨_, rfl, fun K hK => ?_⟩
                have e52 : a.tmps[52]? = some (.func (.yield l) #[] #[]) := by rw [ha]; exact putSel_on (e := (30, 52, .func (.yield l) #[] #[])) 30 rfl rfl (hon 30 (by kernel_rfl)) rfl
                have e53 : a.tmps[53]? = some (.int .i64 (j : Int)) := by rw [ha]; exact putSel_on (e := (31, 53, .int .i64 (j : Int))) 31 rfl rfl (hon 31 (by kernel_rfl)) rfl
                have e51 : a.tmps[51]? = some (.bool true) := by rw [ha]; exact putSel_on (e := (29, 51, .bool true)) 29 rfl rfl (hon 29 (by kernel_rfl)) rfl
                replace ha := Aside0.mk ha
                have HBW := Aside0.mk (Q_HBW hb_)
                obtain ⟨fn, tmps, assign, body, hy, hR⟩ := HY.out w' HBW.out
                refine round_in (l := l) (fn := fn) (tmps := tmps) (assign := assign) (body := body) (wanted_on rfl rfl rfl (e51.trans (by first | rfl | (simp [*]; done)))) rfl (by go_simp) ?_
                refine hR.mono ?_
                rintro e w2 he
                obtain ⟨yv, rfl, he2⟩ := yield_alt he
                refine ⟨_, rfl, ?_⟩
                refine hK.out _ _ ⟨yv, (.bool yv), m33_, m34_, (by rw [ha.out]; exact putSel_upk 32 hb_ rfl rfl rfl), fun h0_ => absurd ((up_self b 32).symm.trans h0_) (by decide), fun _ => fy_low HB3.out.1 HBW.out he2, fun _ => rfl, fun h0_ => absurd ((hoff 33 (by kernel_rfl)).symm.trans h0_) (by decide), fun h0_ => absurd ((hoff 34 (by kernel_rfl)).symm.trans h0_) (by decide)⟩
              refine steps_cons_in ?_ ?_
              · rintro b a w' ⟨yb, m32_, m33_, m34_, ha, Q_HBW, Q_FY, Q_X32_, Q_X33_, Q_X34_⟩ hb_ hon hoff
                refine ⟨_, rfl, fun K hK => ?_⟩
                have e54 : a.tmps[54]? = some (m32_) := by rw [ha]; exact putSel_on (e := (32, 54, m32_)) 32 rfl rfl (hon 32 (by kernel_rfl)) rfl
                rw [Q_X32_ (hon 32 (by kernel_rfl))] at e54
                have e51 : a.tmps[51]? = some (.bool true) := by rw [ha]; exact putSel_on (e := (29, 51, .bool true)) 29 rfl rfl (hon 29 (by kernel_rfl)) rfl
                replace ha := Aside0.mk ha
                have FY := Aside0.mk (Q_FY (hon 32 (by kernel_rfl)))
                refine value_in (w1 := w') (v := .bool (!yb)) (wanted_on rfl rfl rfl (e51.trans (by first | rfl | (simp [*]; done)))) rfl ?_ ?_
                · go_simp
                  (try simp only [i64_w])
                  try rfl
                refine hK.out _ _ ⟨yb, m32_, (.bool (!yb)), m34_, (by rw [ha.out]; exact putSel_upk 33 hb_ rfl rfl rfl), fun h0_ => absurd ((hon 32 (by kernel_rfl)).symm.trans h0_) (by decide), Q_FY, Q_X32_, fun _ => rfl, fun h0_ => absurd ((hoff 34 (by kernel_rfl)).symm.trans h0_) (by decide)⟩
              refine steps_cons_in ?_ ?_
              · rintro b a w' ⟨yb, m32_, m33_, m34_, ha, Q_HBW, Q_FY, Q_X32_, Q_X33_, Q_X34_⟩ hb_ hon hoff
                refine ⟨_, rfl, fun K hK => ?_⟩
                have e51 : a.tmps[51]? = some (.bool true) := by rw [ha]; exact putSel_on (e := (29, 51, .bool true)) 29 rfl rfl (hon 29 (by kernel_rfl)) rfl
                have e55 : a.tmps[55]? = some (m33_) := by rw [ha]; exact putSel_on (e := (33, 55, m33_)) 33 rfl rfl (hon 33 (by kernel_rfl)) rfl
                rw [Q_X33_ (hon 33 (by kernel_rfl))] at e55
                replace ha := Aside0.mk ha
                have FY := Aside0.mk (Q_FY (hon 32 (by kernel_rfl)))
                refine value_in (w1 := w') (v := .bool (!yb)) (by rfl) rfl ?_ ?_
                · go_simp
                  (try simp only [i64_w])
                  try rfl
                refine hK.out _ _ ⟨yb, m32_, m33_, (.bool (!yb)), (by rw [ha.out]; exact putSel_upk 34 hb_ rfl rfl rfl), fun h0_ => absurd ((hon 32 (by kernel_rfl)).symm.trans h0_) (by decide), Q_FY, Q_X32_, Q_X33_, fun _ => rfl⟩
              exact steps_nil_in
            · rintro b a w' hall ⟨yb, m32_, m33_, m34_, ha, Q_HBW, Q_FY, Q_X32_, Q_X33_, Q_X34_⟩
              clear HBW
              have hb0_ := hall 0 (by kernel_rfl)
              have hb1_ := hall 1 (by kernel_rfl)
              have hb2_ := hall 2 (by kernel_rfl)
              have hb3_ := hall 3 (by kernel_rfl)
              have hb4_ := hall 4 (by kernel_rfl)
              have hb5_ := hall 5 (by kernel_rfl)
              have hb6_ := hall 6 (by kernel_rfl)
              have hb7_ := hall 7 (by kernel_rfl)
              have hb8_ := hall 8 (by kernel_rfl)
              have hb9_ := hall 9 (by kernel_rfl)
              have hb10_ := hall 10 (by kernel_rfl)
              have hb11_ := hall 11 (by kernel_rfl)
              have hb12_ := hall 12 (by kernel_rfl)
              have hb13_ := hall 13 (by kernel_rfl)
              have hb14_ := hall 14 (by kernel_rfl)
              have hb15_ := hall 15 (by kernel_rfl)
              have hb16_ := hall 16 (by kernel_rfl)
              have hb17_ := hall 17 (by kernel_rfl)
              have hb18_ := hall 18 (by kernel_rfl)
              have hb19_ := hall 19 (by kernel_rfl)
              have hb20_ := hall 20 (by kernel_rfl)
              have hb21_ := hall 21 (by kernel_rfl)
              have hb22_ := hall 22 (by kernel_rfl)
              have hb23_ := hall 23 (by kernel_rfl)
              have hb24_ := hall 24 (by kernel_rfl)
              have hb25_ := hall 25 (by kernel_rfl)
              have hb26_ := hall 26 (by kernel_rfl)
              have hb27_ := hall 27 (by kernel_rfl)
              have hb28_ := hall 28 (by kernel_rfl)
              have hb29_ := hall 29 (by kernel_rfl)
              have hb30_ := hall 30 (by kernel_rfl)
              have hb31_ := hall 31 (by kernel_rfl)
              have hb32_ := hall 32 (by kernel_rfl)
              have hb33_ := hall 33 (by kernel_rfl)
              have hb34_ := hall 34 (by kernel_rfl)
              subst ha
              obtain rfl := Q_X32_ hb32_
              obtain rfl := Q_X33_ hb33_
              obtain rfl := Q_X34_ hb34_
              simp only [putSel, hb0_, hb1_, hb2_, hb3_, hb4_, hb5_, hb6_, hb7_, hb8_, hb9_, hb10_, hb11_, hb12_, hb13_, hb14_, hb15_, hb16_, hb17_, hb18_, hb19_, hb20_, hb21_, hb22_, hb23_, hb24_, hb25_, hb26_, hb27_, hb28_, hb29_, hb30_, hb31_, hb32_, hb33_, hb34_, if_true, Act.put, List.setIfInBounds_toArray, List.set_cons_zero, List.set_cons_succ]
              clear Q_HBW
              have FY := Aside0.mk (Q_FY hb32_)
              clear Q_FY
              clear hall hb0_ hb1_ hb2_ hb3_ hb4_ hb5_ hb6_ hb7_ hb8_ hb9_ hb10_ hb11_ hb12_ hb13_ hb14_ hb15_ hb16_ hb17_ hb18_ hb19_ hb20_ hb21_ hb22_ hb23_ hb24_ hb25_ hb26_ hb27_ hb28_ hb29_ hb30_ hb31_ hb32_ hb33_ hb34_
              rcases FY.out with ⟨rfl, hJ1, hB1⟩ | ⟨rfl, hJ1⟩
              · gi_wp2
                go_roundg ((rd_L9 L.ca k).length - (j + 1))
                case measure => omega
                case rel => exact ⟨j + 1, by simp, hlt, Nat.le_refl _, ⟨HP.out.1 ▸ hJ1⟩, ⟨HB3w.out.trans hB1⟩⟩
              · gi_wp2
                refine bodyPost_ret (results_none rfl _ _ _) rfl ?_
                exact ⟨⟨_, rfl⟩, .inr ⟨clK L f t k h j ++ [(j : Int)], HP.out.1 ▸ HP.out.2, hJ1⟩⟩
      · obtain rfl : j = (rd_L9 L.ca k).length := by omega
        gi_wp2
        go_end0
        exact ⟨⟨_, rfl⟩, .inl ⟨_, rfl, HJr.out⟩⟩
end Go.Proofs.Ytkbdphjnpieceaa.G
