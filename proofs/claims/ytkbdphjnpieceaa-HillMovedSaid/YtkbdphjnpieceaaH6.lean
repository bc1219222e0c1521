/- Contract of Wall.blocks. Printed by gen_h6.py (h6_head.lean, h6_tail.lean). -/
import Derived.Test.YtkbdphjnpieceaaH5
namespace Go.Proofs.Ytkbdphjnpieceaa.G
open Go.RowKit Go.Proofs.YtkbdphjnpieceaaW.PrintWords Go.Proofs.YtkbdphjnpieceaaW.PrintLast Go.Proofs.YtkbdphjnpieceaaW.PrintMore
open Go.Sort (grow)
set_option linter.unusedVariables false
set_option linter.unusedSimpArgs false

def blocks.T2 : Bool × List (List Nat × List Nat) := (true, [([], []), ([0], [0]), ([], []), ([2, 1], [2]), ([], []), ([], []), ([4, 1, 3, 0, 1, 4, 5], [1, 4]), ([5, 3, 6, 0, 1, 2, 3, 4, 5, 6], [3, 5])])
def blocks.B2 : List Nat := [0, 1, 0, 7, 0, 0, 63, 127]
theorem blocks.tab2 : rtab .any (opsOf Try.f56 2) = blocks.T2 := by kernel_rfl
theorem blocks.bits2 : waitsOk blocks.T2.2 blocks.B2 = true := by kernel_rfl
theorem above_v (g : Nat) (eg : ∀ args w, (callFunc g args).run Try.prog w = .ok (.enter g args) w) (h : Int) (x : S86) (s t : S85) (far other : Int)
    (hg : ∀ W, Calls Try.prog g #[.agg #[.int .i64 x.f0, .int .i64 x.f1, .int .i64 x.f2, .int .i64 x.f3, .int .i64 x.f4, .int .i64 x.f5]] W fun e W' => e = .returned (.int .i64 h) ∧ Below W.heap.size W W')
    (hh : 0 ≤ h ∧ h ≤ 1000) (hs : okSt s) (ht : okSt t) (hf : 0 ≤ far ∧ far ≤ 20000) (ho : 0 ≤ other ∧ other ≤ 20000) (w : World) :
    Calls Try.prog 89 #[.agg #[.func (.func g) #[] #[]], .agg #[.int .i64 x.f0, .int .i64 x.f1, .int .i64 x.f2, .int .i64 x.f3, .int .i64 x.f4, .int .i64 x.f5], .agg #[.int .i64 s.f0, .int .i64 s.f1, .int .i64 s.f2, .int .i64 s.f3], .agg #[.int .i64 t.f0, .int .i64 t.f1, .int .i64 t.f2, .int .i64 t.f3], .int .i64 far, .int .i64 other] w
      fun e w' => e = .returned (.int .i64 (s.f2 * other + t.f2 * far - h * (far + other))) ∧ Below w.heap.size w w' := by
  have h1 := mul_bd (a := s.f2) (b := other) 1000 20000 (by have := hs.2.2.1; omega) hs.2.2.2 (by omega) (by omega)
  have h2 := mul_bd (a := t.f2) (b := far) 1000 20000 (by have := ht.2.2.1; omega) ht.2.2.2 (by omega) (by omega)
  have h3 := mul_bd (a := h) (b := far + other) 1000 40000 (by omega) (by omega) (by omega) (by omega)
  refine (above_c g eg h _ _ _ _ _ _ _ _ _ _ _ _ _ _ far other hg w).mono fun e w' ⟨he, hb⟩ => ⟨?_, hb⟩
  rw [he, wr64 (n := s.f2 * other) (by omega) (by omega), wr64 (n := t.f2 * far) (by omega) (by omega), wr64 (n := far + other) (by omega) (by omega), wr64 (n := h * (far + other)) (by omega) (by omega),
    wr64 (n := s.f2 * other + t.f2 * far) (by omega) (by omega), wr64 (by omega) (by omega)]
theorem absI_bd {n B : Int} (h : -B ≤ n ∧ n ≤ B) : 0 ≤ absI n ∧ absI n ≤ B := by unfold absI; split <;> omega
set_option maxHeartbeats 2000000 in
set_option maxRecDepth 100000 in
theorem blocks_c (x : S86) (s t : S85) (hx : okWl x) (hs0 : okSt s) (ht0 : okSt t) (w : World) :
    Calls Try.prog 56 #[.agg #[.int .i64 x.f0, .int .i64 x.f1, .int .i64 x.f2, .int .i64 x.f3, .int .i64 x.f4, .int .i64 x.f5], .agg #[.int .i64 s.f0, .int .i64 s.f1, .int .i64 s.f2, .int .i64 s.f3], .agg #[.int .i64 t.f0, .int .i64 t.f1, .int .i64 t.f2, .int .i64 t.f3]] w
      fun e w' => e = .returned (.bool (blocksB x s t)) ∧ Below w.heap.size w w' := by
  go_enter Try.func56, Try.ntmps56
  go_wp2_with fail
  refine (ends_c _ _ _ _ _ _ _).mono ?_
  rintro e w1 ⟨rfl, hb1⟩
  have hs := hb1.size
  simp only [World.size_alloc] at hs
  have HX : Aside0 (∀ i v, (#[.int .i64 x.f0, .int .i64 x.f1, .int .i64 x.f2, .int .i64 x.f3, .int .i64 x.f4, .int .i64 x.f5] : Array Value)[i]? = some v → w1.cell? ⟨w.heap.size, i, none⟩ = some v) := ⟨fun i v h => cb hb1 (cb (b1 _ _) (cb (b1 _ _) (cnew rfl h)))⟩
  have HA : Aside0 (∀ i v, (#[.int .i64 s.f0, .int .i64 s.f1, .int .i64 s.f2, .int .i64 s.f3] : Array Value)[i]? = some v → w1.cell? ⟨w.heap.size + 1, i, none⟩ = some v) := ⟨fun i v h => cb hb1 (cb (b1 _ _) (cnew (by simp) h))⟩
  have HB : Aside0 (∀ i v, (#[.int .i64 t.f0, .int .i64 t.f1, .int .i64 t.f2, .int .i64 t.f3] : Array Value)[i]? = some v → w1.cell? ⟨w.heap.size + 1 + 1, i, none⟩ = some v) := ⟨fun i v h => cb hb1 (cnew (by simp) h)⟩
  have HW := Aside0.mk (bt (below_alloc (below_alloc (b1 w _) _) _) hb1)
  clear hb1
  go_upto_region 2 with fail
  refine wp_abs (fun W => Below w1.heap.size w1 W ∧ W.cell? ⟨w1.heap.size, 0, none⟩ = some (.int .i64 x.f0) ∧ W.cell? ⟨w1.heap.size, 1, none⟩ = some (.int .i64 x.f1) ∧ W.cell? ⟨w1.heap.size + 1, 0, none⟩ = some (.int .i64 x.f2) ∧ W.cell? ⟨w1.heap.size + 1, 1, none⟩ = some (.int .i64 x.f3)) ⟨below_alloc (b1 _ _) _, cb (b1 _ _) (cnew rfl rfl), cb (b1 _ _) (cnew rfl rfl), cnew (by simp) rfl, cnew (by simp) rfl⟩ ?_
  rintro W ⟨hbW, p0, p1, q0, q1⟩
  replace HX : Aside0 (∀ i v, (#[.int .i64 x.f0, .int .i64 x.f1, .int .i64 x.f2, .int .i64 x.f3, .int .i64 x.f4, .int .i64 x.f5] : Array Value)[i]? = some v → W.cell? ⟨w.heap.size, i, none⟩ = some v) := ⟨fun i v h => cb hbW (HX.out i v h)⟩
  replace HA : Aside0 (∀ i v, (#[.int .i64 s.f0, .int .i64 s.f1, .int .i64 s.f2, .int .i64 s.f3] : Array Value)[i]? = some v → W.cell? ⟨w.heap.size + 1, i, none⟩ = some v) := ⟨fun i v h => cb hbW (HA.out i v h)⟩
  replace HB : Aside0 (∀ i v, (#[.int .i64 t.f0, .int .i64 t.f1, .int .i64 t.f2, .int .i64 t.f3] : Array Value)[i]? = some v → W.cell? ⟨w.heap.size + 1 + 1, i, none⟩ = some v) := ⟨fun i v h => cb hbW (HB.out i v h)⟩
  have HP : Aside0 (W.cell? ⟨w1.heap.size, 0, none⟩ = some (.int .i64 x.f0) ∧ W.cell? ⟨w1.heap.size, 1, none⟩ = some (.int .i64 x.f1) ∧ W.cell? ⟨w1.heap.size + 1, 0, none⟩ = some (.int .i64 x.f2) ∧ W.cell? ⟨w1.heap.size + 1, 1, none⟩ = some (.int .i64 x.f3)) := ⟨p0, p1, q0, q1⟩
  replace HW : Aside0 (Below w.heap.size w W) := ⟨bt HW.out hbW⟩
  clear p0 p1 q0 q1 hbW
  refine start_ (n := 8) (S := fun w' => True) (ds := []) #[false, false, false, false, false, false, false, false] (by kernel_rfl) rfl rfl trivial (fun hHeld => ?_)
  refine with_tabW blocks.tab2 blocks.bits2 (fun HT_ HW_ => ?_)
  have HBW := Aside0.mk (below_drew (Below.refl W.heap.size W))
  generalize W.drew = W1 at *
  refine inv_at [0, 1, 2, 3, 4, 5, 6, 7] (fun a0_ b a w' => ∃ (g9 : Nat) (g10 : Nat) (m4_ : Value) (m5_ : Value), a = putSel a0_ b [(0, 22, .agg #[.int .i64 s.f0, .int .i64 s.f1, .int .i64 s.f2, .int .i64 s.f3]), (1, 23, .agg #[.int .i64 s.f0, .int .i64 s.f1]), (2, 24, .agg #[.int .i64 t.f0, .int .i64 t.f1, .int .i64 t.f2, .int .i64 t.f3]), (3, 25, .agg #[.int .i64 t.f0, .int .i64 t.f1]), (4, 9, m4_), (5, 10, m5_)] ∧ (Below W.heap.size W w') ∧ (b 4 = true → W.heap.size ≤ g9 ∧ ∃ u v : Value, w'.heap[g9]? = some (.cells #[u, v] 130 (0, 0))) ∧ (b 5 = true → W.heap.size ≤ g10 ∧ ∃ u v : Value, w'.heap[g10]? = some (.cells #[u, v] 130 (0, 0))) ∧ (b 4 = true → b 5 = true → g9 ≠ g10) ∧ (b 6 = true → w'.heap[g9]? = some (.cells #[.int .i64 s.f0, .int .i64 s.f1] 130 (0, 0))) ∧ (b 7 = true → w'.heap[g10]? = some (.cells #[.int .i64 t.f0, .int .i64 t.f1] 130 (0, 0))) ∧ (b 4 = true → (m4_ : Value) = .pointer (some ⟨g9, 0, none⟩)) ∧ (b 5 = true → (m5_ : Value) = .pointer (some ⟨g10, 0, none⟩))) HT_.out HW_.out (by kernel_rfl) (by kernel_rfl) ?_ ?_ ?_
  · exact ⟨0, 0, .bool false, .bool false, by simp only [putSel, Bool.false_eq_true, if_false], HBW.out, fun h_ => absurd h_ (by decide), fun h_ => absurd h_ (by decide), fun h_ => absurd h_ (by decide), fun h_ => absurd h_ (by decide), fun h_ => absurd h_ (by decide), fun h_ => absurd h_ (by decide), fun h_ => absurd h_ (by decide)⟩
  · skip
    clear HBW
    refine steps_cons ?_ ?_
    · rintro b a w' ⟨g9, g10, m4_, m5_, ha, Q_HBW, Q_F4, Q_F5, Q_N, Q_S6, Q_S7, Q_X4_, Q_X5_⟩ hb_ hon hoff
      refine ⟨_, rfl, fun K hK => ?_⟩
      have e4 : a.tmps[4]? = some (.pointer (some ⟨w.heap.size + 1, 0, none⟩)) := by rw [ha]; exact (putSel_off rfl).trans rfl
      replace ha := Aside0.mk ha
      have HBW := Aside0.mk Q_HBW
      have c0 := cb HBW.out (HA.out 0 _ rfl)
      have c1 := cb HBW.out (HA.out 1 _ rfl)
      have c2 := cb HBW.out (HA.out 2 _ rfl)
      have c3 := cb HBW.out (HA.out 3 _ rfl)
      refine value_ (w1 := w') (v := .agg #[.int .i64 s.f0, .int .i64 s.f1, .int .i64 s.f2, .int .i64 s.f3]) (by rfl) rfl ?_ ?_
      · go_simp
        (try simp only [i64_w])
        try rfl
      refine hK.out _ _ ⟨g9, g10, m4_, m5_, (by rw [ha.out]; exact putSel_upk 0 hb_ rfl rfl rfl), Q_HBW, Q_F4, Q_F5, Q_N, fun h0_ => absurd ((hoff 6 (by kernel_rfl)).symm.trans h0_) (by decide), fun h0_ => absurd ((hoff 7 (by kernel_rfl)).symm.trans h0_) (by decide), Q_X4_, Q_X5_⟩
    refine steps_cons ?_ ?_
    · rintro b a w' ⟨g9, g10, m4_, m5_, ha, Q_HBW, Q_F4, Q_F5, Q_N, Q_S6, Q_S7, Q_X4_, Q_X5_⟩ hb_ hon hoff
      refine ⟨_, rfl, fun K hK => ?_⟩
      have e22 : a.tmps[22]? = some (.agg #[.int .i64 s.f0, .int .i64 s.f1, .int .i64 s.f2, .int .i64 s.f3]) := by rw [ha]; exact putSel_on (e := (0, 22, .agg #[.int .i64 s.f0, .int .i64 s.f1, .int .i64 s.f2, .int .i64 s.f3])) 0 rfl rfl (hon 0 (by kernel_rfl)) rfl
      replace ha := Aside0.mk ha
      have HBW := Aside0.mk Q_HBW
      refine call_ 84 #[.agg #[.int .i64 s.f0, .int .i64 s.f1, .int .i64 s.f2, .int .i64 s.f3]] (by rfl) rfl (by go_simp) ?_
      refine (place_c _ _ _ _ _).mono ?_
      rintro e w2 ⟨rfl, hbb⟩
      refine ⟨_, rfl, ?_⟩
      refine hK.out _ _ ⟨g9, g10, m4_, m5_, (by rw [ha.out]; exact putSel_upk 1 hb_ rfl rfl rfl), bt HBW.out hbb, fun h0_ => ⟨(Q_F4 h0_).1, (Q_F4 h0_).2.imp fun _ h => h.imp fun _ h => blk_below h hbb⟩, fun h0_ => ⟨(Q_F5 h0_).1, (Q_F5 h0_).2.imp fun _ h => h.imp fun _ h => blk_below h hbb⟩, fun h0_ h1_ => (Q_N h0_ h1_), fun h0_ => absurd ((hoff 6 (by kernel_rfl)).symm.trans h0_) (by decide), fun h0_ => absurd ((hoff 7 (by kernel_rfl)).symm.trans h0_) (by decide), Q_X4_, Q_X5_⟩
    refine steps_cons ?_ ?_
    · rintro b a w' ⟨g9, g10, m4_, m5_, ha, Q_HBW, Q_F4, Q_F5, Q_N, Q_S6, Q_S7, Q_X4_, Q_X5_⟩ hb_ hon hoff
      refine ⟨_, rfl, fun K hK => ?_⟩
      have e5 : a.tmps[5]? = some (.pointer (some ⟨w.heap.size + 1 + 1, 0, none⟩)) := by rw [ha]; exact (putSel_off rfl).trans rfl
      replace ha := Aside0.mk ha
      have HBW := Aside0.mk Q_HBW
      have c0 := cb HBW.out (HB.out 0 _ rfl)
      have c1 := cb HBW.out (HB.out 1 _ rfl)
      have c2 := cb HBW.out (HB.out 2 _ rfl)
      have c3 := cb HBW.out (HB.out 3 _ rfl)
      refine value_ (w1 := w') (v := .agg #[.int .i64 t.f0, .int .i64 t.f1, .int .i64 t.f2, .int .i64 t.f3]) (by rfl) rfl ?_ ?_
      · go_simp
        (try simp only [i64_w])
        try rfl
      refine hK.out _ _ ⟨g9, g10, m4_, m5_, (by rw [ha.out]; exact putSel_upk 2 hb_ rfl rfl rfl), Q_HBW, Q_F4, Q_F5, Q_N, fun h0_ => absurd ((hoff 6 (by kernel_rfl)).symm.trans h0_) (by decide), fun h0_ => absurd ((hoff 7 (by kernel_rfl)).symm.trans h0_) (by decide), Q_X4_, Q_X5_⟩
    refine steps_cons ?_ ?_
    · rintro b a w' ⟨g9, g10, m4_, m5_, ha, Q_HBW, Q_F4, Q_F5, Q_N, Q_S6, Q_S7, Q_X4_, Q_X5_⟩ hb_ hon hoff
      refine ⟨_, rfl, fun K hK => ?_⟩
      have e24 : a.tmps[24]? = some (.agg #[.int .i64 t.f0, .int .i64 t.f1, .int .i64 t.f2, .int .i64 t.f3]) := by rw [ha]; exact putSel_on (e := (2, 24, .agg #[.int .i64 t.f0, .int .i64 t.f1, .int .i64 t.f2, .int .i64 t.f3])) 2 rfl rfl (hon 2 (by kernel_rfl)) rfl
      replace ha := Aside0.mk ha
      have HBW := Aside0.mk Q_HBW
      refine call_ 84 #[.agg #[.int .i64 t.f0, .int .i64 t.f1, .int .i64 t.f2, .int .i64 t.f3]] (by rfl) rfl (by go_simp) ?_
      refine (place_c _ _ _ _ _).mono ?_
      rintro e w2 ⟨rfl, hbb⟩
      refine ⟨_, rfl, ?_⟩
      refine hK.out _ _ ⟨g9, g10, m4_, m5_, (by rw [ha.out]; exact putSel_upk 3 hb_ rfl rfl rfl), bt HBW.out hbb, fun h0_ => ⟨(Q_F4 h0_).1, (Q_F4 h0_).2.imp fun _ h => h.imp fun _ h => blk_below h hbb⟩, fun h0_ => ⟨(Q_F5 h0_).1, (Q_F5 h0_).2.imp fun _ h => h.imp fun _ h => blk_below h hbb⟩, fun h0_ h1_ => (Q_N h0_ h1_), fun h0_ => absurd ((hoff 6 (by kernel_rfl)).symm.trans h0_) (by decide), fun h0_ => absurd ((hoff 7 (by kernel_rfl)).symm.trans h0_) (by decide), Q_X4_, Q_X5_⟩
    refine steps_cons ?_ ?_
    · rintro b a w' ⟨g9, g10, m4_, m5_, ha, Q_HBW, Q_F4, Q_F5, Q_N, Q_S6, Q_S7, Q_X4_, Q_X5_⟩ hb_ hon hoff
      refine ⟨_, rfl, fun K hK => ?_⟩
      replace ha := Aside0.mk ha
      have HBW := Aside0.mk Q_HBW
      refine value_ (w1 := w'.alloc (.cells #[.int .i64 0, .int .i64 0] 130)) (v := .pointer (some ⟨w'.heap.size, 0, none⟩)) (by rfl) rfl (by go_simp) ?_
      have hbb := b1 w' (.cells #[.int .i64 0, .int .i64 0] 130)
      have z_N := fun (h0_ : up b 4 4 = true) (h1_ : up b 4 5 = true) => (show w'.heap.size ≠ g10 from fun h => by obtain ⟨_, _, _, h2⟩ := Q_F5 h1_; exact absurd (blk_lt h2) (h ▸ Nat.lt_irrefl _))
      refine hK.out _ _ ⟨w'.heap.size, g10, (.pointer (some ⟨w'.heap.size, 0, none⟩)), m5_, (by rw [ha.out]; exact putSel_upk 4 hb_ rfl rfl rfl), bt HBW.out hbb, fun _ => ⟨HBW.out.size, _, _, blk_new _ _⟩, fun h0_ => ⟨(Q_F5 h0_).1, (Q_F5 h0_).2.imp fun _ h => h.imp fun _ h => blk_below h hbb⟩, z_N, fun h0_ => absurd ((hoff 6 (by kernel_rfl)).symm.trans h0_) (by decide), fun h0_ => absurd ((hoff 7 (by kernel_rfl)).symm.trans h0_) (by decide), fun _ => rfl, Q_X5_⟩
    refine steps_cons ?_ ?_
    · rintro b a w' ⟨g9, g10, m4_, m5_, ha, Q_HBW, Q_F4, Q_F5, Q_N, Q_S6, Q_S7, Q_X4_, Q_X5_⟩ hb_ hon hoff
      refine ⟨_, rfl, fun K hK => ?_⟩
      replace ha := Aside0.mk ha
      have HBW := Aside0.mk Q_HBW
      refine value_ (w1 := w'.alloc (.cells #[.int .i64 0, .int .i64 0] 130)) (v := .pointer (some ⟨w'.heap.size, 0, none⟩)) (by rfl) rfl (by go_simp) ?_
      have hbb := b1 w' (.cells #[.int .i64 0, .int .i64 0] 130)
      have z_N := fun (h0_ : up b 5 4 = true) (h1_ : up b 5 5 = true) => (show g9 ≠ w'.heap.size from fun h => by obtain ⟨_, _, _, h2⟩ := Q_F4 h0_; exact absurd (blk_lt h2) (h ▸ Nat.lt_irrefl _))
      refine hK.out _ _ ⟨g9, w'.heap.size, m4_, (.pointer (some ⟨w'.heap.size, 0, none⟩)), (by rw [ha.out]; exact putSel_upk 5 hb_ rfl rfl rfl), bt HBW.out hbb, fun h0_ => ⟨(Q_F4 h0_).1, (Q_F4 h0_).2.imp fun _ h => h.imp fun _ h => blk_below h hbb⟩, fun _ => ⟨HBW.out.size, _, _, blk_new _ _⟩, z_N, fun h0_ => absurd ((hoff 6 (by kernel_rfl)).symm.trans h0_) (by decide), fun h0_ => absurd ((hoff 7 (by kernel_rfl)).symm.trans h0_) (by decide), Q_X4_, fun _ => rfl⟩
    refine steps_cons ?_ ?_
    · rintro b a w' ⟨g9, g10, m4_, m5_, ha, Q_HBW, Q_F4, Q_F5, Q_N, Q_S6, Q_S7, Q_X4_, Q_X5_⟩ hb_ hon hoff
      refine ⟨_, rfl, fun K hK => ?_⟩
      have e9 : a.tmps[9]? = some (m4_) := by rw [ha]; exact putSel_on (e := (4, 9, m4_)) 4 rfl rfl (hon 4 (by kernel_rfl)) rfl
      rw [Q_X4_ (hon 4 (by kernel_rfl))] at e9
      have e23 : a.tmps[23]? = some (.agg #[.int .i64 s.f0, .int .i64 s.f1]) := by rw [ha]; exact putSel_on (e := (1, 23, .agg #[.int .i64 s.f0, .int .i64 s.f1])) 1 rfl rfl (hon 1 (by kernel_rfl)) rfl
      replace ha := Aside0.mk ha
      have HBW := Aside0.mk Q_HBW
      have F4 := Aside0.mk (Q_F4 (hon 4 (by kernel_rfl)))
      have F5 := Aside0.mk (Q_F5 (hon 5 (by kernel_rfl)))
      have N := Aside0.mk (Q_N (hon 4 (by kernel_rfl)) (hon 5 (by kernel_rfl)))
      obtain ⟨gs, u0, v0, gk⟩ := F4.out
      have n0 := (blk_cell gk 0).trans rfl
      have n1 := (blk_cell (blk_set gk 0 (.int .i64 s.f0)) 1).trans rfl
      have n2 := blk_frozen gk 0
      have n3 := blk_frozen (blk_set gk 0 (.int .i64 s.f0)) 1
      have n4 := blk_set (blk_set gk 0 (.int .i64 s.f0)) 1 (.int .i64 s.f1)
      refine skip_ (w1 := (w'.setCell ⟨g9, 0, none⟩ (.int .i64 s.f0)).setCell ⟨g9, 1, none⟩ (.int .i64 s.f1)) (by rfl) rfl (by go_simp) ?_
      refine hK.out _ _ ⟨g9, g10, m4_, m5_, (by rw [ha.out]; exact putSel_none (v := undef) rfl), below_set (below_set HBW.out gs) gs, fun _ => ⟨gs, _, _, n4⟩, fun _ => ⟨F5.out.1, F5.out.2.imp fun _ h => h.imp fun _ h => blk_far (blk_far (h) N.out.symm _) N.out.symm _⟩, fun _ _ => N.out, fun _ => n4, fun h0_ => absurd ((hoff 7 (by kernel_rfl)).symm.trans h0_) (by decide), Q_X4_, Q_X5_⟩
    refine steps_cons ?_ ?_
    · rintro b a w' ⟨g9, g10, m4_, m5_, ha, Q_HBW, Q_F4, Q_F5, Q_N, Q_S6, Q_S7, Q_X4_, Q_X5_⟩ hb_ hon hoff
      refine ⟨_, rfl, fun K hK => ?_⟩
      have e10 : a.tmps[10]? = some (m5_) := by rw [ha]; exact putSel_on (e := (5, 10, m5_)) 5 rfl rfl (hon 5 (by kernel_rfl)) rfl
      rw [Q_X5_ (hon 5 (by kernel_rfl))] at e10
      have e25 : a.tmps[25]? = some (.agg #[.int .i64 t.f0, .int .i64 t.f1]) := by rw [ha]; exact putSel_on (e := (3, 25, .agg #[.int .i64 t.f0, .int .i64 t.f1])) 3 rfl rfl (hon 3 (by kernel_rfl)) rfl
      replace ha := Aside0.mk ha
      have HBW := Aside0.mk Q_HBW
      have F4 := Aside0.mk (Q_F4 (hon 4 (by kernel_rfl)))
      have F5 := Aside0.mk (Q_F5 (hon 5 (by kernel_rfl)))
      have N := Aside0.mk (Q_N (hon 4 (by kernel_rfl)) (hon 5 (by kernel_rfl)))
      have S6 := Aside0.mk (Q_S6 (hon 6 (by kernel_rfl)))
      obtain ⟨gs, u0, v0, gk⟩ := F5.out
      have n0 := (blk_cell gk 0).trans rfl
      have n1 := (blk_cell (blk_set gk 0 (.int .i64 t.f0)) 1).trans rfl
      have n2 := blk_frozen gk 0
      have n3 := blk_frozen (blk_set gk 0 (.int .i64 t.f0)) 1
      have n4 := blk_set (blk_set gk 0 (.int .i64 t.f0)) 1 (.int .i64 t.f1)
      refine skip_ (w1 := (w'.setCell ⟨g10, 0, none⟩ (.int .i64 t.f0)).setCell ⟨g10, 1, none⟩ (.int .i64 t.f1)) (by rfl) rfl (by go_simp) ?_
      refine hK.out _ _ ⟨g9, g10, m4_, m5_, (by rw [ha.out]; exact putSel_none (v := undef) rfl), below_set (below_set HBW.out gs) gs, fun _ => ⟨F4.out.1, F4.out.2.imp fun _ h => h.imp fun _ h => blk_far (blk_far (h) N.out _) N.out _⟩, fun _ => ⟨gs, _, _, n4⟩, fun _ _ => N.out, fun _ => blk_far (blk_far (S6.out) N.out _) N.out _, fun _ => n4, Q_X4_, Q_X5_⟩
    exact steps_nil
  · rintro b a w' hall ⟨g9, g10, m4_, m5_, ha, Q_HBW, Q_F4, Q_F5, Q_N, Q_S6, Q_S7, Q_X4_, Q_X5_⟩
    clear HBW
    have hb0_ := hall 0 (by kernel_rfl)
    have hb1_ := hall 1 (by kernel_rfl)
    have hb2_ := hall 2 (by kernel_rfl)
    have hb3_ := hall 3 (by kernel_rfl)
    have hb4_ := hall 4 (by kernel_rfl)
    have hb5_ := hall 5 (by kernel_rfl)
    have hb6_ := hall 6 (by kernel_rfl)
    have hb7_ := hall 7 (by kernel_rfl)
    subst ha
    obtain rfl := Q_X4_ hb4_
    obtain rfl := Q_X5_ hb5_
    simp only [putSel, hb0_, hb1_, hb2_, hb3_, hb4_, hb5_, hb6_, hb7_, if_true, Act.put, List.setIfInBounds_toArray, List.set_cons_zero, List.set_cons_succ]
    have HBW := Aside0.mk Q_HBW
    clear Q_HBW
    have F4 := Aside0.mk (Q_F4 hb4_)
    clear Q_F4
    have F5 := Aside0.mk (Q_F5 hb5_)
    clear Q_F5
    have N := Aside0.mk (Q_N hb4_ hb5_)
    clear Q_N
    have S6 := Aside0.mk (Q_S6 hb6_)
    clear Q_S6
    have S7 := Aside0.mk (Q_S7 hb7_)
    clear Q_S7
    clear hall hb0_ hb1_ hb2_ hb3_ hb4_ hb5_ hb6_ hb7_
    obtain ⟨g0, g1, g2, g3⟩ := HP.out
    have p0 := fun d os => cell_regrown (cb HBW.out g0) d os
    have p1 := fun d os => cell_regrown (cb HBW.out g1) d os
    have q0 := fun d os => cell_regrown (cb HBW.out g2) d os
    have q1 := fun d os => cell_regrown (cb HBW.out g3) d os
    have a0 := fun d os => cell_regrown ((blk_cell S6.out 0).trans rfl) d os
    have a1 := fun d os => cell_regrown ((blk_cell S6.out 1).trans rfl) d os
    have b0 := fun d os => cell_regrown ((blk_cell S7.out 0).trans rfl) d os
    have b1' := fun d os => cell_regrown ((blk_cell S7.out 1).trans rfl) d os
    clear g0 g1 g2 g3
    go_wp2_with fail
    refine wp_region_quiet_below (by kernel_rfl) (by kernel_rfl) ?_
    have S1 := fun w => side_v (x0 := s.f0) (x1 := s.f1) hx.1 hx.2.1 hx.2.2.1 hx.2.2.2.1 hs0.1 hs0.2.1 w
    have S2 := fun w => side_v (x0 := t.f0) (x1 := t.f1) hx.1 hx.2.1 hx.2.2.1 hx.2.2.2.1 ht0.1 ht0.2.1 w
    repeat (go_big_quiet_step (fail))
    go_big_quiet_step (exact Calls.regrown_of (S1 _))
    repeat (go_big_quiet_step (fail))
    go_big_quiet_step (exact Calls.regrown_of (S2 _))
    repeat (go_big_quiet_step (fail))
    refine wpQuiet_nil ?_
    intro _ hw'
    obtain ⟨⟨dq, osq⟩, hw''⟩ := hw'
    subst hw''
    clear S1 S2
    have hbf := sideI_bd hx.1 hx.2.1 hx.2.2.1 hx.2.2.2.1 hs0.1 hs0.2.1
    have hbo := sideI_bd hx.1 hx.2.1 hx.2.2.1 hx.2.2.2.1 ht0.1 ht0.2.1
    obtain ⟨f, hf⟩ : ∃ f, f = sideI x.f0 x.f1 x.f2 x.f3 s.f0 s.f1 := ⟨_, rfl⟩
    obtain ⟨o, ho⟩ : ∃ o, o = sideI x.f0 x.f1 x.f2 x.f3 t.f0 t.f1 := ⟨_, rfl⟩
    simp only [← hf, ← ho] at hbf hbo ⊢
    have hB : blocksB x s t = blocksB x s t := rfl
    conv at hB => rhs; unfold blocksB
    simp only [← hf, ← ho] at hB
    have HBB := Aside0.mk hB
    have HFO := Aside0.mk (And.intro hbf hbo)
    have HF := Aside0.mk (And.intro hf ho)
    clear hB hbf hbo hf ho
    go_wp2_with fail
    rotate_left 3
    · refine wp_abs (fun V => Below w.heap.size w V ∧ V.cell? ⟨w1.heap.size, 0, none⟩ = some (.int .i64 x.f0) ∧ V.cell? ⟨w1.heap.size, 1, none⟩ = some (.int .i64 x.f1) ∧ V.cell? ⟨w1.heap.size + 1, 0, none⟩ = some (.int .i64 x.f2) ∧ V.cell? ⟨w1.heap.size + 1, 1, none⟩ = some (.int .i64 x.f3)
          ∧ V.cell? ⟨g9, 0, none⟩ = some (.int .i64 s.f0) ∧ V.cell? ⟨g9, 1, none⟩ = some (.int .i64 s.f1) ∧ V.cell? ⟨g10, 0, none⟩ = some (.int .i64 t.f0) ∧ V.cell? ⟨g10, 1, none⟩ = some (.int .i64 t.f1)
          ∧ (∀ i v, (#[.int .i64 x.f0, .int .i64 x.f1, .int .i64 x.f2, .int .i64 x.f3, .int .i64 x.f4, .int .i64 x.f5] : Array Value)[i]? = some v → V.cell? ⟨w.heap.size, i, none⟩ = some v)
          ∧ (∀ i v, (#[.int .i64 s.f0, .int .i64 s.f1, .int .i64 s.f2, .int .i64 s.f3] : Array Value)[i]? = some v → V.cell? ⟨w.heap.size + 1, i, none⟩ = some v)
          ∧ (∀ i v, (#[.int .i64 t.f0, .int .i64 t.f1, .int .i64 t.f2, .int .i64 t.f3] : Array Value)[i]? = some v → V.cell? ⟨w.heap.size + 1 + 1, i, none⟩ = some v))
        ⟨bt HW.out (bt HBW.out (below_regrown _ dq osq)), p0 dq osq, p1 dq osq, q0 dq osq, q1 dq osq, a0 dq osq, a1 dq osq, b0 dq osq, b1' dq osq, fun i v h => cell_regrown (cb HBW.out (HX.out i v h)) dq osq, fun i v h => cell_regrown (cb HBW.out (HA.out i v h)) dq osq, fun i v h => cell_regrown (cb HBW.out (HB.out i v h)) dq osq⟩ ?_
      clear p0 p1 q0 q1 a0 a1 b0 b1' HX HA HB HW HBW HP F4 F5 N S6 S7
      rintro V ⟨hV, p0, p1, q0, q1, a0, a1, b0, b1', hX, hA, hB⟩
      have HV := Aside0.mk hV
      have HX := Aside0.mk hX
      have HA := Aside0.mk hA
      have HB := Aside0.mk hB
      clear hV hX hA hB
      replace p0 := fun d os => cell_regrown p0 d os
      replace p1 := fun d os => cell_regrown p1 d os
      replace q0 := fun d os => cell_regrown q0 d os
      replace q1 := fun d os => cell_regrown q1 d os
      replace a0 := fun d os => cell_regrown a0 d os
      replace a1 := fun d os => cell_regrown a1 d os
      replace b0 := fun d os => cell_regrown b0 d os
      replace b1' := fun d os => cell_regrown b1' d os
      have S1 := fun w => side_v (x0 := x.f0) (x1 := x.f1) hs0.1 hs0.2.1 ht0.1 ht0.2.1 hx.1 hx.2.1 w
      have S2 := fun w => side_v (x0 := x.f2) (x1 := x.f3) hs0.1 hs0.2.1 ht0.1 ht0.2.1 hx.2.2.1 hx.2.2.2.1 w
      refine wp_region_quiet_below (by kernel_rfl) (by kernel_rfl) ?_
      repeat (go_big_quiet_step (fail))
      go_big_quiet_step (exact Calls.regrown_of (S1 _))
      repeat (go_big_quiet_step (fail))
      go_big_quiet_step (exact Calls.regrown_of (S2 _))
      repeat (go_big_quiet_step (fail))
      refine wpQuiet_nil ?_
      intro _ hw'
      obtain ⟨⟨dr, osr⟩, hw''⟩ := hw'
      subst hw''
      clear S1 S2 p0 p1 q0 q1 a0 a1 b0 b1'
      have hB := HBB.out
      clear HBB
      obtain ⟨u, hu⟩ : ∃ u, u = sideI s.f0 s.f1 t.f0 t.f1 x.f0 x.f1 := ⟨_, rfl⟩
      obtain ⟨v, hv⟩ : ∃ v, v = sideI s.f0 s.f1 t.f0 t.f1 x.f2 x.f3 := ⟨_, rfl⟩
      simp only [← hu, ← hv] at hB ⊢
      have HBB := Aside0.mk hB
      have HU := Aside0.mk (And.intro hu hv)
      clear hB hu hv
      have hV' := below_regrown V dr osr
      generalize grow (redrawn V dr) osr = V' at *
      replace HV := Aside0.mk (bt HV.out hV')
      have HX := Aside0.mk fun i v h => cb hV' (HX.out i v h)
      have HA := Aside0.mk fun i v h => cb hV' (HA.out i v h)
      have HB := Aside0.mk fun i v h => cb hV' (HB.out i v h)
      clear hV'
      have hF1 := HFO.out.1
      have hF2 := HFO.out.2
      have hB1 : -9223372036854775807 ≤ f ∧ f ≤ 9223372036854775807 := by omega
      have hB2 : -9223372036854775807 ≤ o ∧ o ≤ 9223372036854775807 := by omega
      have HB12 := Aside0.mk (And.intro hB1 hB2)
      clear hF1 hF2 hB1 hB2
      go_wp2_with fail
      rotate_left 1
      · go_ret
        refine ⟨?_, HV.out⟩
        rw [HBB.out]
        first
        | (simp [*]; done)
        | (rw [if_neg (by assumption), if_neg (by assumption), if_neg (by simp_all), if_pos (by simp_all)]; first | done | rfl)
      · go_ret
        refine ⟨?_, HV.out⟩
        rw [HBB.out]
        first
        | (simp [*]; done)
        | (rw [if_neg (by assumption), if_neg (by assumption), if_neg (by simp_all), if_pos (by simp_all)]; first | done | rfl)
      all_goals
        have HC : Aside0 (blocksB x s t = (decide (0 ≤ s.f2 * absI o + t.f2 * absI f - x.f4 * (absI f + absI o)) && decide (s.f2 * absI o + t.f2 * absI f - x.f5 * (absI f + absI o) ≤ 0))) := ⟨by
          rw [HBB.out, if_neg (by assumption), if_neg (by assumption), if_neg (by simp_all), if_neg (by simp_all; omega)]⟩
        refine (abs_c _ _ HB12.out.1.1 HB12.out.1.2).mono ?_
        rintro e _ ⟨rfl, rfl⟩
        rw [show (if 0 ≤ f then f else -f) = absI f from rfl]
        go_wp2_with fail
        refine (abs_c _ _ HB12.out.2.1 HB12.out.2.2).mono ?_
        rintro e _ ⟨rfl, rfl⟩
        rw [show (if 0 ≤ o then o else -o) = absI o from rfl]
        go_upto_region 11 with fail
        refine wp_abs (fun V => Below V'.heap.size V' V ∧ V.cell? ⟨V'.heap.size, 0, none⟩ = some (.func (.func 87) #[] #[]) ∧ V.cell? ⟨V'.heap.size + 1, 0, none⟩ = some (.func (.func 88) #[] #[])) ⟨below_alloc (b1 _ _) _, cb (b1 _ _) (cnew rfl rfl), cnew (by simp) rfl⟩ ?_
        rintro V2 ⟨hV2, f15, f16⟩
        replace HV := Aside0.mk (bt HV.out hV2)
        replace HX := Aside0.mk fun i v h => cb hV2 (HX.out i v h)
        replace HA := Aside0.mk fun i v h => cb hV2 (HA.out i v h)
        replace HB := Aside0.mk fun i v h => cb hV2 (HB.out i v h)
        clear hV2
        have hx0 := HX.out 0 _ rfl
        have hx1 := HX.out 1 _ rfl
        have hx2 := HX.out 2 _ rfl
        have hx3 := HX.out 3 _ rfl
        have hx4 := HX.out 4 _ rfl
        have hx5 := HX.out 5 _ rfl
        have ha0 := HA.out 0 _ rfl
        have ha1 := HA.out 1 _ rfl
        have ha2 := HA.out 2 _ rfl
        have ha3 := HA.out 3 _ rfl
        have hb0 := HB.out 0 _ rfl
        have hb1 := HB.out 1 _ rfl
        have hb2 := HB.out 2 _ rfl
        have hb3 := HB.out 3 _ rfl
        go_wp2_with fail
        refine (above_v 87 (fun _ _ => rfl) x.f4 x s t (absI f) (absI o) (fun W => base_c _ _ _ _ _ _ W) hx.2.2.2.2.1 hs0 ht0 (absI_bd HFO.out.1) (absI_bd HFO.out.2) _).mono ?_
        rintro e V3 ⟨rfl, hV3⟩
        have k16 := cb hV3 f16
        replace HV := Aside0.mk (bt HV.out hV3)
        replace hx0 := cb hV3 hx0
        replace hx1 := cb hV3 hx1
        replace hx2 := cb hV3 hx2
        replace hx3 := cb hV3 hx3
        replace hx4 := cb hV3 hx4
        replace hx5 := cb hV3 hx5
        replace ha0 := cb hV3 ha0
        replace ha1 := cb hV3 ha1
        replace ha2 := cb hV3 ha2
        replace ha3 := cb hV3 ha3
        replace hb0 := cb hV3 hb0
        replace hb1 := cb hV3 hb1
        replace hb2 := cb hV3 hb2
        replace hb3 := cb hV3 hb3
        clear hV3 f15 f16
        generalize hgv : s.f2 * absI o + t.f2 * absI f - x.f4 * (absI f + absI o) = lo at *
        by_cases hlo : 0 ≤ lo
        · go_wp2_with fail
          refine (above_v 88 (fun _ _ => rfl) x.f5 x s t (absI f) (absI o) (fun W => top_c _ _ _ _ _ _ W) hx.2.2.2.2.2 hs0 ht0 (absI_bd HFO.out.1) (absI_bd HFO.out.2) _).mono ?_
          rintro e V4 ⟨rfl, hV4⟩
          go_wp2_with fail
          go_ret
          refine ⟨?_, bt HV.out hV4⟩
          rw [HC.out]
          simp [hlo]
        · go_wp2_with fail
          go_ret
          refine ⟨?_, HV.out⟩
          rw [HC.out]
          simp
          intro h
          exact absurd h (by omega)
    all_goals
      go_ret
      refine ⟨?_, bt HW.out (bt HBW.out (below_regrown _ dq osq))⟩
      rw [HBB.out]
      first
        | (simp [*]; done)
        | (rw [if_neg (by assumption), if_neg (by assumption), if_pos (by simp_all)]; first | done | rfl)
end Go.Proofs.Ytkbdphjnpieceaa.G
