/- The law's copied: a copy of a land, in memory of its own. -/
import Derived.Test.YtkbdphjnpieceaaK2
import Derived.Test.YtkbdphjnpieceaaR1
namespace Go.Proofs.Ytkbdphjnpieceaa.G
open Go.RowKit Go.Proofs.YtkbdphjnpieceaaW.PrintWords Go.Proofs.YtkbdphjnpieceaaW.PrintLast Go.Proofs.YtkbdphjnpieceaaW.PrintMore
open Go.Sort (grow)
set_option linter.unusedVariables false
set_option linter.unusedSimpArgs false

section
variable {α : Type} {d : Kd α} {e base g t : Nat} {w : World} {ok : Nat → Prop} {v : Value} {xs : List α} {cells : Array Value}
theorem R_set (h : d.R e w base ok v xs) (hb : w.heap[g]? = some (.cells cells t (0, 0))) (ht : ∀ q, q ∈ e :: d.E → q ≠ t) (j : Nat) (u : Value) : d.R e (w.setCell ⟨g, j, none⟩ u) base ok v xs :=
  Kd.R_mono (Kd.R_far (Kd.R_types h hb ht) (fun _ hk => hk.2) u) (fun _ hk => hk.1)
theorem S_fresh {w2 : World} {u : Value} (h : Kd.S d e w base (fun _ => True) u xs) (hg : w.grownBy w2 none) (hat : ∃ b, v.ownBlock = some b ∧ w.heap.size ≤ b) : Kd.S d e w2 base (fun k => True ∧ some k ≠ v.ownBlock) u xs :=
  Kd.S_grown (Kd.S_mono (Kd.S_bound h) (fun k hk => ⟨trivial, fun e => by obtain ⟨b, hb, hle⟩ := hat; rw [hb] at e; injection e with e; have := hk.2.2.1; omega⟩)) hg (fun _ _ => by simp)
theorem S_set (h : Kd.S d e w base ok v xs) (hb : w.heap[g]? = some (.cells cells t (0, 0))) (ht : ∀ q, q ∈ e :: d.E → q ≠ t) (j : Nat) (u : Value) : Kd.S d e (w.setCell ⟨g, j, none⟩ u) base ok v xs := by
  obtain ⟨f, h⟩ := h
  exact ⟨f, R_set h hb ht j u⟩
end
def copied.T5 : Bool × List (List Nat × List Nat) := (true, [([], []), ([0], [0]), ([], []), ([], []), ([3], [3]), ([], []), ([4, 5], [4, 5]), ([6], [6]), ([2, 7], [2, 7]), ([8], [8]), ([1, 9, 8], [1, 9]), ([0, 1, 2, 3, 4, 5, 6, 7, 8, 9, 10], []), ([11, 10, 10, 0, 1, 2, 3, 4, 5, 6, 7, 8, 9, 10], [10, 11])])
def copied.B5 : List Nat := [0, 1, 0, 0, 8, 0, 56, 120, 252, 508, 1023, 2047, 4095]
theorem copied.tab5 : rtab .any (opsOf Try.f32 5) = copied.T5 := by kernel_rfl
theorem copied.bits5 : waitsOk copied.T5.2 copied.B5 = true := by kernel_rfl
def copied.T1 : Bool × List (List Nat × List Nat) := (true, [([], []), ([], []), ([1], [1]), ([0, 2], [0, 2]), ([], []), ([], []), ([5], [5]), ([4, 6, 3], [4, 6]), ([], []), ([], []), ([9], [9]), ([8, 10, 7], [8, 10]), ([3, 7, 11], [3, 7, 11]), ([], []), ([13, 12, 11, 0, 1, 2, 3, 4, 5, 6, 7, 8, 9, 10, 11, 12, 13], [12, 13])])
def copied.B1 : List Nat := [0, 0, 2, 7, 0, 0, 32, 127, 0, 0, 512, 2047, 4095, 0, 16383]
theorem copied.tab1 : rtab .any (opsOf Try.f32 1) = copied.T1 := by kernel_rfl
theorem copied.bits1 : waitsOk copied.T1.2 copied.B1 = true := by kernel_rfl
set_option maxHeartbeats 4000000 in
set_option maxRecDepth 100000 in
theorem copied_c (a0 : Rv) (w : World) (h0 : a0.In w) (hs : a0.st.length ≤ 64) (hr : a0.ri.length ≤ 64) (hc : a0.ca.length ≤ 64) (hcc : ∀ c ∈ a0.ca, c.length ≤ 64) (hu : a0.su.length ≤ 64) :
    Calls Try.prog 32 #[.agg a0.cells] w fun e w' => ∃ v0 v1 v2 v3 : Value, e = .returned (.agg #[v0, v1, v2, v3]) ∧ Kd.R k65 65 w' w.heap.size (fun _ => True) v0 a0.st ∧ Kd.R k55 55 w' w.heap.size (fun _ => True) v1 a0.ri ∧ Kd.S (Kd.slice 61 k61) 59 w' w.heap.size (fun _ => True) v2 a0.ca ∧ Kd.R k50 50 w' w.heap.size (fun _ => True) v3 a0.su ∧ Below w.heap.size w w' := by
  obtain ⟨st, ri, ca, su, A0, A1, A2, A3, n0, n1, n2, n3⟩ := a0
  obtain ⟨hr0, hn0, hr1, hn1, hr2, hn2, hr3, hn3⟩ := h0
  simp only [Rv.cells] at *
  have HR0 := Aside0.mk hr0
  have HR1 := Aside0.mk hr1
  have HR2 := Aside0.mk hr2
  have HR3 := Aside0.mk hr3
  have HCC := Aside0.mk hcc
  clear hr0 hr1 hr2 hr3 hcc hn0 hn1 hn2 hn3
  go_enter Try.func32, Try.ntmps32
  go_wp2_with fail
  refine wp_abs (fun W => Below w.heap.size w W ∧ W.heap[w.heap.size]? = some (.cells #[.slice A0 st.length n0, .slice A1 ri.length n1, .slice A2 ca.length n2, .slice A3 su.length n3] 27 (0, 0)) ∧ W.heap[w.heap.size + 1]? = some (.cells #[.slice none 0 0, .slice none 0 0, .slice none 0 0, .slice none 0 0] 27 (0, 0))) ⟨below_alloc (b1 _ _) _, blk_alloc (blk_new w _) _, by have h_ := blk_new (w.alloc (.cells #[.slice A0 st.length n0, .slice A1 ri.length n1, .slice A2 ca.length n2, .slice A3 su.length n3] 27)) (.cells #[.slice none 0 0, .slice none 0 0, .slice none 0 0, .slice none 0 0] 27); simpa using h_⟩ ?_
  rintro W ⟨hb, hB1, hB2⟩
  have HB := Aside0.mk hb
  have HB1 := Aside0.mk hB1
  have HB2 := Aside0.mk hB2
  have D0 := Aside0.mk (show W.cell? ⟨w.heap.size, 0, none⟩ = some (.slice A0 st.length n0) from blk_cell hB1 0)
  have D1 := Aside0.mk (show W.cell? ⟨w.heap.size, 1, none⟩ = some (.slice A1 ri.length n1) from blk_cell hB1 1)
  have D2 := Aside0.mk (show W.cell? ⟨w.heap.size, 2, none⟩ = some (.slice A2 ca.length n2) from blk_cell hB1 2)
  have D3 := Aside0.mk (show W.cell? ⟨w.heap.size, 3, none⟩ = some (.slice A3 su.length n3) from blk_cell hB1 3)
  replace HR0 := Aside0.mk (Kd.C_below HR0.out hb)
  replace HR1 := Aside0.mk (Kd.C_below HR1.out hb)
  replace HR2 := Aside0.mk (Kd.C_below HR2.out hb)
  replace HR3 := Aside0.mk (Kd.C_below HR3.out hb)
  clear hb hB1 hB2
  refine start_ (n := 15) (S := fun w' => True) (ds := []) #[false, false, false, false, false, false, false, false, false, false, false, false, false, false, false] (by kernel_rfl) rfl rfl trivial (fun hHeld => ?_)
  refine with_tabW copied.tab1 copied.bits1 (fun HT_ HW_ => ?_)
  have HBW := Aside0.mk (below_drew (Below.refl W.heap.size W))
  generalize W.drew = W1 at *
  refine inv_at [0, 1, 2, 3, 4, 5, 6, 7, 8, 9, 10, 11, 12, 13, 14] (fun a0_ b a w' => ∃ (v5_ : Value) (v8_ : Value) (v9_ : Value) (v12_ : Value) (v13_ : Value) (v16_ : Value) (g3_ : Nat) (m12_ : Value) (m13_ : Value), a = putSel a0_ b [(0, 5, v5_), (1, 6, .pointer (some ⟨w.heap.size, 0, none⟩)), (2, 7, .slice A0 st.length n0), (3, 8, v8_), (4, 9, v9_), (5, 10, .pointer (some ⟨w.heap.size, 1, none⟩)), (6, 11, .slice A1 ri.length n1), (7, 12, v12_), (8, 13, v13_), (9, 14, .pointer (some ⟨w.heap.size, 3, none⟩)), (10, 15, .slice A3 su.length n3), (11, 16, v16_), (12, 17, m12_), (13, 3, m13_)] ∧ (Below W.heap.size W w') ∧ (b 0 = true → b 3 = false → Kd.R k65 65 w' W.heap.size (fun _ => True) v5_ []) ∧ (b 3 = true → Kd.R k65 65 w' W.heap.size (fun _ => True) v8_ st) ∧ (b 4 = true → b 7 = false → Kd.R k55 55 w' W.heap.size (fun _ => True) v9_ []) ∧ (b 7 = true → Kd.R k55 55 w' W.heap.size (fun _ => True) v12_ ri) ∧ (b 8 = true → b 11 = false → Kd.R k50 50 w' W.heap.size (fun _ => True) v13_ []) ∧ (b 11 = true → Kd.R k50 50 w' W.heap.size (fun _ => True) v16_ su) ∧ (b 13 = true → b 14 = false → W.heap.size ≤ g3_ ∧ w'.heap[g3_]? = some (.cells #[.slice none 0 0, .slice none 0 0, .slice none 0 0, .slice none 0 0] 27 (0, 0))) ∧ (b 14 = true → W.heap.size ≤ g3_ ∧ w'.heap[g3_]? = some (.cells #[v8_, v12_, .slice none 0 0, v16_] 27 (0, 0))) ∧ (b 12 = true → (m12_ : Value) = .agg #[v8_, v12_, .slice none 0 0, v16_]) ∧ (b 13 = true → (m13_ : Value) = .pointer (some ⟨g3_, 0, none⟩))) HT_.out HW_.out (by kernel_rfl) (by kernel_rfl) ?_ ?_ ?_
  · exact ⟨.bool false, .bool false, .bool false, .bool false, .bool false, .bool false, 0, .bool false, .bool false, by simp only [putSel, Bool.false_eq_true, if_false], HBW.out, fun h_ => absurd h_ (by decide), fun h_ => absurd h_ (by decide), fun h_ => absurd h_ (by decide), fun h_ => absurd h_ (by decide), fun h_ => absurd h_ (by decide), fun h_ => absurd h_ (by decide), fun h_ => absurd h_ (by decide), fun h_ => absurd h_ (by decide), fun h_ => absurd h_ (by decide), fun h_ => absurd h_ (by decide)⟩
  · skip
    clear HBW
    refine steps_cons ?_ ?_
    · rintro b a w' ⟨v5_, v8_, v9_, v12_, v13_, v16_, g3_, m12_, m13_, ha, Q_HBW, Q_R5, Q_R8, Q_R9, Q_R12, Q_R13, Q_R16, Q_F3, Q_S3, Q_X12_, Q_X13_⟩ hb_ hon hoff
      refine ⟨_, rfl, fun K hK => ?_⟩
      replace ha := Aside0.mk ha
      have HBW := Aside0.mk Q_HBW
      refine Kd.R_lit_step k65 W.heap.size 65 (by rfl) (N := 5) rfl (xs := ([] : List S65)) (inner := []) (ok := fun _ => True) (okp := fun _ => True) (by first | (go_simp; done) | (go_simp; rfl)) (Reps.none _ _) (fun _ hk => hk) trivial HBW.out HBW.out.size (by simp) ?_
      intro v_ w2 hR_ hB_ hg_ hat_
      refine hK.out _ _ ⟨v_, v8_, v9_, v12_, v13_, v16_, g3_, m12_, m13_, (by rw [ha.out]; exact putSel_upk 0 hb_ rfl rfl rfl), hB_, fun _ _ => hR_, fun h0_ => absurd ((hoff 3 (by kernel_rfl)).symm.trans h0_) (by decide), fun h0_ h1_ => Kd.R_grown (Q_R9 h0_ h1_) hg_ (fun _ _ => by simp), fun h0_ => absurd ((hoff 7 (by kernel_rfl)).symm.trans h0_) (by decide), fun h0_ h1_ => Kd.R_grown (Q_R13 h0_ h1_) hg_ (fun _ _ => by simp), fun h0_ => absurd ((hoff 11 (by kernel_rfl)).symm.trans h0_) (by decide), fun h0_ h1_ => ⟨(Q_F3 h0_ h1_).1, blk_grown (Q_F3 h0_ h1_).2 hg_ (by simp)⟩, fun h0_ => absurd ((hoff 14 (by kernel_rfl)).symm.trans h0_) (by decide), fun h0_ => absurd ((hoff 12 (by kernel_rfl)).symm.trans h0_) (by decide), Q_X13_⟩
    refine steps_cons ?_ ?_
    · rintro b a w' ⟨v5_, v8_, v9_, v12_, v13_, v16_, g3_, m12_, m13_, ha, Q_HBW, Q_R5, Q_R8, Q_R9, Q_R12, Q_R13, Q_R16, Q_F3, Q_S3, Q_X12_, Q_X13_⟩ hb_ hon hoff
      refine ⟨_, rfl, fun K hK => ?_⟩
      have e1 : a.tmps[1]? = some (.pointer (some ⟨w.heap.size, 0, none⟩)) := by rw [ha]; exact (putSel_off rfl).trans rfl
      replace ha := Aside0.mk ha
      have HBW := Aside0.mk Q_HBW
      refine value_ (w1 := w') (v := .pointer (some ⟨w.heap.size, 0, none⟩)) (by rfl) rfl ?_ ?_
      · go_simp
        (try simp only [i64_w])
        try rfl
      refine hK.out _ _ ⟨v5_, v8_, v9_, v12_, v13_, v16_, g3_, m12_, m13_, (by rw [ha.out]; exact putSel_upk 1 hb_ rfl rfl rfl), Q_HBW, Q_R5, fun h0_ => absurd ((hoff 3 (by kernel_rfl)).symm.trans h0_) (by decide), Q_R9, fun h0_ => absurd ((hoff 7 (by kernel_rfl)).symm.trans h0_) (by decide), Q_R13, fun h0_ => absurd ((hoff 11 (by kernel_rfl)).symm.trans h0_) (by decide), Q_F3, fun h0_ => absurd ((hoff 14 (by kernel_rfl)).symm.trans h0_) (by decide), fun h0_ => absurd ((hoff 12 (by kernel_rfl)).symm.trans h0_) (by decide), Q_X13_⟩
    refine steps_cons ?_ ?_
    · rintro b a w' ⟨v5_, v8_, v9_, v12_, v13_, v16_, g3_, m12_, m13_, ha, Q_HBW, Q_R5, Q_R8, Q_R9, Q_R12, Q_R13, Q_R16, Q_F3, Q_S3, Q_X12_, Q_X13_⟩ hb_ hon hoff
      refine ⟨_, rfl, fun K hK => ?_⟩
      have e6 : a.tmps[6]? = some (.pointer (some ⟨w.heap.size, 0, none⟩)) := by rw [ha]; exact putSel_on (e := (1, 6, .pointer (some ⟨w.heap.size, 0, none⟩))) 1 rfl rfl (hon 1 (by kernel_rfl)) rfl
      replace ha := Aside0.mk ha
      have HBW := Aside0.mk Q_HBW
      have k0_ := cb HBW.out D0.out
      refine value_ (w1 := w') (v := .slice A0 st.length n0) (by rfl) rfl ?_ ?_
      · go_simp
        (try simp only [i64_w])
        try rfl
      refine hK.out _ _ ⟨v5_, v8_, v9_, v12_, v13_, v16_, g3_, m12_, m13_, (by rw [ha.out]; exact putSel_upk 2 hb_ rfl rfl rfl), Q_HBW, Q_R5, fun h0_ => absurd ((hoff 3 (by kernel_rfl)).symm.trans h0_) (by decide), Q_R9, fun h0_ => absurd ((hoff 7 (by kernel_rfl)).symm.trans h0_) (by decide), Q_R13, fun h0_ => absurd ((hoff 11 (by kernel_rfl)).symm.trans h0_) (by decide), Q_F3, fun h0_ => absurd ((hoff 14 (by kernel_rfl)).symm.trans h0_) (by decide), fun h0_ => absurd ((hoff 12 (by kernel_rfl)).symm.trans h0_) (by decide), Q_X13_⟩
    refine steps_cons ?_ ?_
    · rintro b a w' ⟨v5_, v8_, v9_, v12_, v13_, v16_, g3_, m12_, m13_, ha, Q_HBW, Q_R5, Q_R8, Q_R9, Q_R12, Q_R13, Q_R16, Q_F3, Q_S3, Q_X12_, Q_X13_⟩ hb_ hon hoff
      refine ⟨_, rfl, fun K hK => ?_⟩
      have e5 : a.tmps[5]? = some (v5_) := by rw [ha]; exact putSel_on (e := (0, 5, v5_)) 0 rfl rfl (hon 0 (by kernel_rfl)) rfl
      have e7 : a.tmps[7]? = some (.slice A0 st.length n0) := by rw [ha]; exact putSel_on (e := (2, 7, .slice A0 st.length n0)) 2 rfl rfl (hon 2 (by kernel_rfl)) rfl
      replace ha := Aside0.mk ha
      have HBW := Aside0.mk Q_HBW
      have R5 := Aside0.mk (Q_R5 (hon 0 (by kernel_rfl)) hb_)
      refine Kd.R_append_rows_step k65 (w0 := W) W.heap.size (by rfl) (.tmp 5) (.tmp 7) 22 65 (.agg #[(.int .i64 0), (.int .i64 0), (.int .i64 0), (.int .i64 0)]) 32 rfl Try.underlying22 info65 rfl (by decide) (by decide) v5_ [] st A0 st.length n0 (fun _ => True) (fun _ => False) (by simp only [Act.eval, Array.getD_eq_getD_getElem?, Option.getD_some, e5]) (by simp only [Act.eval, Array.getD_eq_getD_getElem?, Option.getD_some, e7]) R5.out (Kd.C_below HR0.out HBW.out) (fun x cs h => by rw [k65_open h]; exact k65_mkM _ _ _ x) (fun _ h => h.elim) (fun _ _ => trivial) HBW.out HBW.out.size (by simp only [List.length_nil]; omega) ?_
      intro v_ w2 hR_ hB_ hg_ hat_
      refine hK.out _ _ ⟨v5_, v_, v9_, v12_, v13_, v16_, g3_, m12_, m13_, (by rw [ha.out]; exact putSel_upk 3 hb_ rfl rfl rfl), hB_, fun _ h1_ => absurd ((up_self b 3).symm.trans h1_) (by decide), fun _ => hR_, fun h0_ h1_ => Kd.R_over (Q_R9 h0_ h1_) R5.out (by decide) hg_, fun h0_ => absurd ((hoff 7 (by kernel_rfl)).symm.trans h0_) (by decide), fun h0_ h1_ => Kd.R_over (Q_R13 h0_ h1_) R5.out (by decide) hg_, fun h0_ => absurd ((hoff 11 (by kernel_rfl)).symm.trans h0_) (by decide), fun h0_ h1_ => ⟨(Q_F3 h0_ h1_).1, blk_grown (Q_F3 h0_ h1_).2 hg_ (Kd.R_ne R5.out (Q_F3 h0_ h1_).2 (by decide))⟩, fun h0_ => absurd ((hoff 14 (by kernel_rfl)).symm.trans h0_) (by decide), fun h0_ => absurd ((hoff 12 (by kernel_rfl)).symm.trans h0_) (by decide), Q_X13_⟩
    refine steps_cons ?_ ?_
    · rintro b a w' ⟨v5_, v8_, v9_, v12_, v13_, v16_, g3_, m12_, m13_, ha, Q_HBW, Q_R5, Q_R8, Q_R9, Q_R12, Q_R13, Q_R16, Q_F3, Q_S3, Q_X12_, Q_X13_⟩ hb_ hon hoff
      refine ⟨_, rfl, fun K hK => ?_⟩
      replace ha := Aside0.mk ha
      have HBW := Aside0.mk Q_HBW
      refine Kd.R_lit_step k55 W.heap.size 55 (by rfl) (N := 9) rfl (xs := ([] : List S55)) (inner := []) (ok := fun _ => True) (okp := fun _ => True) (by first | (go_simp; done) | (go_simp; rfl)) (Reps.none _ _) (fun _ hk => hk) trivial HBW.out HBW.out.size (by simp) ?_
      intro v_ w2 hR_ hB_ hg_ hat_
      refine hK.out _ _ ⟨v5_, v8_, v_, v12_, v13_, v16_, g3_, m12_, m13_, (by rw [ha.out]; exact putSel_upk 4 hb_ rfl rfl rfl), hB_, fun h0_ h1_ => Kd.R_grown (Q_R5 h0_ h1_) hg_ (fun _ _ => by simp), fun h0_ => Kd.R_grown (Q_R8 h0_) hg_ (fun _ _ => by simp), fun _ _ => hR_, fun h0_ => absurd ((hoff 7 (by kernel_rfl)).symm.trans h0_) (by decide), fun h0_ h1_ => Kd.R_grown (Q_R13 h0_ h1_) hg_ (fun _ _ => by simp), fun h0_ => absurd ((hoff 11 (by kernel_rfl)).symm.trans h0_) (by decide), fun h0_ h1_ => ⟨(Q_F3 h0_ h1_).1, blk_grown (Q_F3 h0_ h1_).2 hg_ (by simp)⟩, fun h0_ => absurd ((hoff 14 (by kernel_rfl)).symm.trans h0_) (by decide), fun h0_ => absurd ((hoff 12 (by kernel_rfl)).symm.trans h0_) (by decide), Q_X13_⟩
    refine steps_cons ?_ ?_
    · rintro b a w' ⟨v5_, v8_, v9_, v12_, v13_, v16_, g3_, m12_, m13_, ha, Q_HBW, Q_R5, Q_R8, Q_R9, Q_R12, Q_R13, Q_R16, Q_F3, Q_S3, Q_X12_, Q_X13_⟩ hb_ hon hoff
      refine ⟨_, rfl, fun K hK => ?_⟩
      have e1 : a.tmps[1]? = some (.pointer (some ⟨w.heap.size, 0, none⟩)) := by rw [ha]; exact (putSel_off rfl).trans rfl
      replace ha := Aside0.mk ha
      have HBW := Aside0.mk Q_HBW
      refine value_ (w1 := w') (v := .pointer (some ⟨w.heap.size, 1, none⟩)) (by rfl) rfl ?_ ?_
      · go_simp
        (try simp only [i64_w])
        try rfl
      refine hK.out _ _ ⟨v5_, v8_, v9_, v12_, v13_, v16_, g3_, m12_, m13_, (by rw [ha.out]; exact putSel_upk 5 hb_ rfl rfl rfl), Q_HBW, Q_R5, Q_R8, Q_R9, fun h0_ => absurd ((hoff 7 (by kernel_rfl)).symm.trans h0_) (by decide), Q_R13, fun h0_ => absurd ((hoff 11 (by kernel_rfl)).symm.trans h0_) (by decide), Q_F3, fun h0_ => absurd ((hoff 14 (by kernel_rfl)).symm.trans h0_) (by decide), fun h0_ => absurd ((hoff 12 (by kernel_rfl)).symm.trans h0_) (by decide), Q_X13_⟩
    refine steps_cons ?_ ?_
    · rintro b a w' ⟨v5_, v8_, v9_, v12_, v13_, v16_, g3_, m12_, m13_, ha, Q_HBW, Q_R5, Q_R8, Q_R9, Q_R12, Q_R13, Q_R16, Q_F3, Q_S3, Q_X12_, Q_X13_⟩ hb_ hon hoff
      refine ⟨_, rfl, fun K hK => ?_⟩
      have e10 : a.tmps[10]? = some (.pointer (some ⟨w.heap.size, 1, none⟩)) := by rw [ha]; exact putSel_on (e := (5, 10, .pointer (some ⟨w.heap.size, 1, none⟩))) 5 rfl rfl (hon 5 (by kernel_rfl)) rfl
      replace ha := Aside0.mk ha
      have HBW := Aside0.mk Q_HBW
      have k0_ := cb HBW.out D1.out
      refine value_ (w1 := w') (v := .slice A1 ri.length n1) (by rfl) rfl ?_ ?_
      · go_simp
        (try simp only [i64_w])
        try rfl
      refine hK.out _ _ ⟨v5_, v8_, v9_, v12_, v13_, v16_, g3_, m12_, m13_, (by rw [ha.out]; exact putSel_upk 6 hb_ rfl rfl rfl), Q_HBW, Q_R5, Q_R8, Q_R9, fun h0_ => absurd ((hoff 7 (by kernel_rfl)).symm.trans h0_) (by decide), Q_R13, fun h0_ => absurd ((hoff 11 (by kernel_rfl)).symm.trans h0_) (by decide), Q_F3, fun h0_ => absurd ((hoff 14 (by kernel_rfl)).symm.trans h0_) (by decide), fun h0_ => absurd ((hoff 12 (by kernel_rfl)).symm.trans h0_) (by decide), Q_X13_⟩
    refine steps_cons ?_ ?_
    · rintro b a w' ⟨v5_, v8_, v9_, v12_, v13_, v16_, g3_, m12_, m13_, ha, Q_HBW, Q_R5, Q_R8, Q_R9, Q_R12, Q_R13, Q_R16, Q_F3, Q_S3, Q_X12_, Q_X13_⟩ hb_ hon hoff
      refine ⟨_, rfl, fun K hK => ?_⟩
      have e9 : a.tmps[9]? = some (v9_) := by rw [ha]; exact putSel_on (e := (4, 9, v9_)) 4 rfl rfl (hon 4 (by kernel_rfl)) rfl
      have e11 : a.tmps[11]? = some (.slice A1 ri.length n1) := by rw [ha]; exact putSel_on (e := (6, 11, .slice A1 ri.length n1)) 6 rfl rfl (hon 6 (by kernel_rfl)) rfl
      replace ha := Aside0.mk ha
      have HBW := Aside0.mk Q_HBW
      have R8 := Aside0.mk (Q_R8 (hon 3 (by kernel_rfl)))
      have R9 := Aside0.mk (Q_R9 (hon 4 (by kernel_rfl)) hb_)
      refine Kd.R_append_rows_step k55 (w0 := W) W.heap.size (by rfl) (.tmp 9) (.tmp 11) 23 55 (.agg #[(.int .i64 0), (.int .i64 0), (.int .i64 0), (.int .i64 0), (.int .i64 0), (.int .i64 0)]) 48 rfl Try.underlying23 info55 rfl (by decide) (by decide) v9_ [] ri A1 ri.length n1 (fun _ => True) (fun _ => False) (by simp only [Act.eval, Array.getD_eq_getD_getElem?, Option.getD_some, e9]) (by simp only [Act.eval, Array.getD_eq_getD_getElem?, Option.getD_some, e11]) R9.out (Kd.C_below HR1.out HBW.out) (fun x cs h => by rw [k55_open h]; exact k55_mkM _ _ _ x) (fun _ h => h.elim) (fun _ _ => trivial) HBW.out HBW.out.size (by simp only [List.length_nil]; omega) ?_
      intro v_ w2 hR_ hB_ hg_ hat_
      refine hK.out _ _ ⟨v5_, v8_, v9_, v_, v13_, v16_, g3_, m12_, m13_, (by rw [ha.out]; exact putSel_upk 7 hb_ rfl rfl rfl), hB_, fun _ h1_ => absurd ((hon 3 (by kernel_rfl)).symm.trans h1_) (by decide), fun _ => Kd.R_over R8.out R9.out (by decide) hg_, fun _ h1_ => absurd ((up_self b 7).symm.trans h1_) (by decide), fun _ => hR_, fun h0_ h1_ => Kd.R_over (Q_R13 h0_ h1_) R9.out (by decide) hg_, fun h0_ => absurd ((hoff 11 (by kernel_rfl)).symm.trans h0_) (by decide), fun h0_ h1_ => ⟨(Q_F3 h0_ h1_).1, blk_grown (Q_F3 h0_ h1_).2 hg_ (Kd.R_ne R9.out (Q_F3 h0_ h1_).2 (by decide))⟩, fun h0_ => absurd ((hoff 14 (by kernel_rfl)).symm.trans h0_) (by decide), fun h0_ => absurd ((hoff 12 (by kernel_rfl)).symm.trans h0_) (by decide), Q_X13_⟩
    refine steps_cons ?_ ?_
    · rintro b a w' ⟨v5_, v8_, v9_, v12_, v13_, v16_, g3_, m12_, m13_, ha, Q_HBW, Q_R5, Q_R8, Q_R9, Q_R12, Q_R13, Q_R16, Q_F3, Q_S3, Q_X12_, Q_X13_⟩ hb_ hon hoff
      refine ⟨_, rfl, fun K hK => ?_⟩
      replace ha := Aside0.mk ha
      have HBW := Aside0.mk Q_HBW
      refine Kd.R_lit_step k50 W.heap.size 50 (by rfl) (N := 13) rfl (xs := ([] : List S50)) (inner := []) (ok := fun _ => True) (okp := fun _ => True) (by first | (go_simp; done) | (go_simp; rfl)) (Reps.none _ _) (fun _ hk => hk) trivial HBW.out HBW.out.size (by simp) ?_
      intro v_ w2 hR_ hB_ hg_ hat_
      refine hK.out _ _ ⟨v5_, v8_, v9_, v12_, v_, v16_, g3_, m12_, m13_, (by rw [ha.out]; exact putSel_upk 8 hb_ rfl rfl rfl), hB_, fun h0_ h1_ => Kd.R_grown (Q_R5 h0_ h1_) hg_ (fun _ _ => by simp), fun h0_ => Kd.R_grown (Q_R8 h0_) hg_ (fun _ _ => by simp), fun h0_ h1_ => Kd.R_grown (Q_R9 h0_ h1_) hg_ (fun _ _ => by simp), fun h0_ => Kd.R_grown (Q_R12 h0_) hg_ (fun _ _ => by simp), fun _ _ => hR_, fun h0_ => absurd ((hoff 11 (by kernel_rfl)).symm.trans h0_) (by decide), fun h0_ h1_ => ⟨(Q_F3 h0_ h1_).1, blk_grown (Q_F3 h0_ h1_).2 hg_ (by simp)⟩, fun h0_ => absurd ((hoff 14 (by kernel_rfl)).symm.trans h0_) (by decide), fun h0_ => absurd ((hoff 12 (by kernel_rfl)).symm.trans h0_) (by decide), Q_X13_⟩
    refine steps_cons ?_ ?_
    · rintro b a w' ⟨v5_, v8_, v9_, v12_, v13_, v16_, g3_, m12_, m13_, ha, Q_HBW, Q_R5, Q_R8, Q_R9, Q_R12, Q_R13, Q_R16, Q_F3, Q_S3, Q_X12_, Q_X13_⟩ hb_ hon hoff
      refine ⟨_, rfl, fun K hK => ?_⟩
      have e1 : a.tmps[1]? = some (.pointer (some ⟨w.heap.size, 0, none⟩)) := by rw [ha]; exact (putSel_off rfl).trans rfl
      replace ha := Aside0.mk ha
      have HBW := Aside0.mk Q_HBW
      refine value_ (w1 := w') (v := .pointer (some ⟨w.heap.size, 3, none⟩)) (by rfl) rfl ?_ ?_
      · go_simp
        (try simp only [i64_w])
        try rfl
      refine hK.out _ _ ⟨v5_, v8_, v9_, v12_, v13_, v16_, g3_, m12_, m13_, (by rw [ha.out]; exact putSel_upk 9 hb_ rfl rfl rfl), Q_HBW, Q_R5, Q_R8, Q_R9, Q_R12, Q_R13, fun h0_ => absurd ((hoff 11 (by kernel_rfl)).symm.trans h0_) (by decide), Q_F3, fun h0_ => absurd ((hoff 14 (by kernel_rfl)).symm.trans h0_) (by decide), fun h0_ => absurd ((hoff 12 (by kernel_rfl)).symm.trans h0_) (by decide), Q_X13_⟩
    refine steps_cons ?_ ?_
    · rintro b a w' ⟨v5_, v8_, v9_, v12_, v13_, v16_, g3_, m12_, m13_, ha, Q_HBW, Q_R5, Q_R8, Q_R9, Q_R12, Q_R13, Q_R16, Q_F3, Q_S3, Q_X12_, Q_X13_⟩ hb_ hon hoff
      refine ⟨_, rfl, fun K hK => ?_⟩
      have e14 : a.tmps[14]? = some (.pointer (some ⟨w.heap.size, 3, none⟩)) := by rw [ha]; exact putSel_on (e := (9, 14, .pointer (some ⟨w.heap.size, 3, none⟩))) 9 rfl rfl (hon 9 (by kernel_rfl)) rfl
      replace ha := Aside0.mk ha
      have HBW := Aside0.mk Q_HBW
      have k0_ := cb HBW.out D3.out
      refine value_ (w1 := w') (v := .slice A3 su.length n3) (by rfl) rfl ?_ ?_
      · go_simp
        (try simp only [i64_w])
        try rfl
      refine hK.out _ _ ⟨v5_, v8_, v9_, v12_, v13_, v16_, g3_, m12_, m13_, (by rw [ha.out]; exact putSel_upk 10 hb_ rfl rfl rfl), Q_HBW, Q_R5, Q_R8, Q_R9, Q_R12, Q_R13, fun h0_ => absurd ((hoff 11 (by kernel_rfl)).symm.trans h0_) (by decide), Q_F3, fun h0_ => absurd ((hoff 14 (by kernel_rfl)).symm.trans h0_) (by decide), fun h0_ => absurd ((hoff 12 (by kernel_rfl)).symm.trans h0_) (by decide), Q_X13_⟩
    refine steps_cons ?_ ?_
    · rintro b a w' ⟨v5_, v8_, v9_, v12_, v13_, v16_, g3_, m12_, m13_, ha, Q_HBW, Q_R5, Q_R8, Q_R9, Q_R12, Q_R13, Q_R16, Q_F3, Q_S3, Q_X12_, Q_X13_⟩ hb_ hon hoff
      refine ⟨_, rfl, fun K hK => ?_⟩
      have e13 : a.tmps[13]? = some (v13_) := by rw [ha]; exact putSel_on (e := (8, 13, v13_)) 8 rfl rfl (hon 8 (by kernel_rfl)) rfl
      have e15 : a.tmps[15]? = some (.slice A3 su.length n3) := by rw [ha]; exact putSel_on (e := (10, 15, .slice A3 su.length n3)) 10 rfl rfl (hon 10 (by kernel_rfl)) rfl
      replace ha := Aside0.mk ha
      have HBW := Aside0.mk Q_HBW
      have R8 := Aside0.mk (Q_R8 (hon 3 (by kernel_rfl)))
      have R12 := Aside0.mk (Q_R12 (hon 7 (by kernel_rfl)))
      have R13 := Aside0.mk (Q_R13 (hon 8 (by kernel_rfl)) hb_)
      refine Kd.R_append_rows_step k50 (w0 := W) W.heap.size (by rfl) (.tmp 13) (.tmp 15) 25 50 (.agg #[(.int .i64 0), (.int .i64 0), (.int .i64 0)]) 24 rfl Try.underlying25 info50 rfl (by decide) (by decide) v13_ [] su A3 su.length n3 (fun _ => True) (fun _ => False) (by simp only [Act.eval, Array.getD_eq_getD_getElem?, Option.getD_some, e13]) (by simp only [Act.eval, Array.getD_eq_getD_getElem?, Option.getD_some, e15]) R13.out (Kd.C_below HR3.out HBW.out) (fun x cs h => by rw [k50_open h]; exact k50_mkM _ _ _ x) (fun _ h => h.elim) (fun _ _ => trivial) HBW.out HBW.out.size (by simp only [List.length_nil]; omega) ?_
      intro v_ w2 hR_ hB_ hg_ hat_
      refine hK.out _ _ ⟨v5_, v8_, v9_, v12_, v13_, v_, g3_, m12_, m13_, (by rw [ha.out]; exact putSel_upk 11 hb_ rfl rfl rfl), hB_, fun _ h1_ => absurd ((hon 3 (by kernel_rfl)).symm.trans h1_) (by decide), fun _ => Kd.R_over R8.out R13.out (by decide) hg_, fun _ h1_ => absurd ((hon 7 (by kernel_rfl)).symm.trans h1_) (by decide), fun _ => Kd.R_over R12.out R13.out (by decide) hg_, fun _ h1_ => absurd ((up_self b 11).symm.trans h1_) (by decide), fun _ => hR_, fun h0_ h1_ => ⟨(Q_F3 h0_ h1_).1, blk_grown (Q_F3 h0_ h1_).2 hg_ (Kd.R_ne R13.out (Q_F3 h0_ h1_).2 (by decide))⟩, fun h0_ => absurd ((hoff 14 (by kernel_rfl)).symm.trans h0_) (by decide), fun h0_ => absurd ((hoff 12 (by kernel_rfl)).symm.trans h0_) (by decide), Q_X13_⟩
    refine steps_cons ?_ ?_
    · rintro b a w' ⟨v5_, v8_, v9_, v12_, v13_, v16_, g3_, m12_, m13_, ha, Q_HBW, Q_R5, Q_R8, Q_R9, Q_R12, Q_R13, Q_R16, Q_F3, Q_S3, Q_X12_, Q_X13_⟩ hb_ hon hoff
      refine ⟨_, rfl, fun K hK => ?_⟩
      have e8 : a.tmps[8]? = some (v8_) := by rw [ha]; exact putSel_on (e := (3, 8, v8_)) 3 rfl rfl (hon 3 (by kernel_rfl)) rfl
      have e12 : a.tmps[12]? = some (v12_) := by rw [ha]; exact putSel_on (e := (7, 12, v12_)) 7 rfl rfl (hon 7 (by kernel_rfl)) rfl
      have e16 : a.tmps[16]? = some (v16_) := by rw [ha]; exact putSel_on (e := (11, 16, v16_)) 11 rfl rfl (hon 11 (by kernel_rfl)) rfl
      replace ha := Aside0.mk ha
      have HBW := Aside0.mk Q_HBW
      have R8 := Aside0.mk (Q_R8 (hon 3 (by kernel_rfl)))
      have R12 := Aside0.mk (Q_R12 (hon 7 (by kernel_rfl)))
      have R16 := Aside0.mk (Q_R16 (hon 11 (by kernel_rfl)))
      obtain ⟨b8_, y8_, rfl⟩ := Kd.R_slice R8.out
      obtain ⟨b12_, y12_, rfl⟩ := Kd.R_slice R12.out
      obtain ⟨b16_, y16_, rfl⟩ := Kd.R_slice R16.out
      refine value_ (w1 := w') (v := .agg #[(.slice b8_ st.length y8_), (.slice b12_ ri.length y12_), .slice none 0 0, (.slice b16_ su.length y16_)]) (by rfl) rfl ?_ ?_
      · go_simp
        (try simp only [i64_w])
        try rfl
      refine hK.out _ _ ⟨v5_, (.slice b8_ st.length y8_), v9_, (.slice b12_ ri.length y12_), v13_, (.slice b16_ su.length y16_), g3_, (.agg #[(.slice b8_ st.length y8_), (.slice b12_ ri.length y12_), .slice none 0 0, (.slice b16_ su.length y16_)]), m13_, (by rw [ha.out]; exact putSel_upk 12 hb_ rfl rfl rfl), Q_HBW, fun _ h1_ => absurd ((hon 3 (by kernel_rfl)).symm.trans h1_) (by decide), Q_R8, fun _ h1_ => absurd ((hon 7 (by kernel_rfl)).symm.trans h1_) (by decide), Q_R12, fun _ h1_ => absurd ((hon 11 (by kernel_rfl)).symm.trans h1_) (by decide), Q_R16, Q_F3, fun h0_ => absurd ((hoff 14 (by kernel_rfl)).symm.trans h0_) (by decide), fun _ => rfl, Q_X13_⟩
    refine steps_cons ?_ ?_
    · rintro b a w' ⟨v5_, v8_, v9_, v12_, v13_, v16_, g3_, m12_, m13_, ha, Q_HBW, Q_R5, Q_R8, Q_R9, Q_R12, Q_R13, Q_R16, Q_F3, Q_S3, Q_X12_, Q_X13_⟩ hb_ hon hoff
      refine ⟨_, rfl, fun K hK => ?_⟩
      replace ha := Aside0.mk ha
      have HBW := Aside0.mk Q_HBW
      refine value_ (w1 := w'.alloc (.cells #[.slice none 0 0, .slice none 0 0, .slice none 0 0, .slice none 0 0] 27)) (v := .pointer (some ⟨w'.heap.size, 0, none⟩)) (by rfl) rfl (by go_simp) ?_
      have hbb := b1 w' (.cells #[.slice none 0 0, .slice none 0 0, .slice none 0 0, .slice none 0 0] 27)
      refine hK.out _ _ ⟨v5_, v8_, v9_, v12_, v13_, v16_, w'.heap.size, m12_, (.pointer (some ⟨w'.heap.size, 0, none⟩)), (by rw [ha.out]; exact putSel_upk 13 hb_ rfl rfl rfl), bt HBW.out hbb, fun h0_ h1_ => Kd.R_below (Q_R5 h0_ h1_) hbb, fun h0_ => Kd.R_below (Q_R8 h0_) hbb, fun h0_ h1_ => Kd.R_below (Q_R9 h0_ h1_) hbb, fun h0_ => Kd.R_below (Q_R12 h0_) hbb, fun h0_ h1_ => Kd.R_below (Q_R13 h0_ h1_) hbb, fun h0_ => Kd.R_below (Q_R16 h0_) hbb, fun _ _ => ⟨HBW.out.size, blk_new _ _⟩, fun h0_ => absurd ((hoff 14 (by kernel_rfl)).symm.trans h0_) (by decide), Q_X12_, fun _ => rfl⟩
    refine steps_cons ?_ ?_
    · rintro b a w' ⟨v5_, v8_, v9_, v12_, v13_, v16_, g3_, m12_, m13_, ha, Q_HBW, Q_R5, Q_R8, Q_R9, Q_R12, Q_R13, Q_R16, Q_F3, Q_S3, Q_X12_, Q_X13_⟩ hb_ hon hoff
      refine ⟨_, rfl, fun K hK => ?_⟩
      have e3 : a.tmps[3]? = some (m13_) := by rw [ha]; exact putSel_on (e := (13, 3, m13_)) 13 rfl rfl (hon 13 (by kernel_rfl)) rfl
      rw [Q_X13_ (hon 13 (by kernel_rfl))] at e3
      have e17 : a.tmps[17]? = some (m12_) := by rw [ha]; exact putSel_on (e := (12, 17, m12_)) 12 rfl rfl (hon 12 (by kernel_rfl)) rfl
      rw [Q_X12_ (hon 12 (by kernel_rfl))] at e17
      replace ha := Aside0.mk ha
      have HBW := Aside0.mk Q_HBW
      have R8 := Aside0.mk (Q_R8 (hon 3 (by kernel_rfl)))
      have R12 := Aside0.mk (Q_R12 (hon 7 (by kernel_rfl)))
      have R16 := Aside0.mk (Q_R16 (hon 11 (by kernel_rfl)))
      have F3 := Aside0.mk (Q_F3 (hon 13 (by kernel_rfl)) hb_)
      obtain ⟨b8_, y8_, rfl⟩ := Kd.R_slice R8.out
      obtain ⟨b12_, y12_, rfl⟩ := Kd.R_slice R12.out
      obtain ⟨b16_, y16_, rfl⟩ := Kd.R_slice R16.out
      have c0 := (blk_cell (F3.out.2) 0).trans rfl
      have f0 := blk_frozen (F3.out.2) 0
      have c1 := (blk_cell (blk_set (F3.out.2) 0 ((.slice b8_ st.length y8_))) 1).trans rfl
      have f1 := blk_frozen (blk_set (F3.out.2) 0 ((.slice b8_ st.length y8_))) 1
      have c2 := (blk_cell (blk_set (blk_set (F3.out.2) 0 ((.slice b8_ st.length y8_))) 1 ((.slice b12_ ri.length y12_))) 2).trans rfl
      have f2 := blk_frozen (blk_set (blk_set (F3.out.2) 0 ((.slice b8_ st.length y8_))) 1 ((.slice b12_ ri.length y12_))) 2
      have c3 := (blk_cell (blk_set (blk_set (blk_set (F3.out.2) 0 ((.slice b8_ st.length y8_))) 1 ((.slice b12_ ri.length y12_))) 2 (.slice none 0 0)) 3).trans rfl
      have f3 := blk_frozen (blk_set (blk_set (blk_set (F3.out.2) 0 ((.slice b8_ st.length y8_))) 1 ((.slice b12_ ri.length y12_))) 2 (.slice none 0 0)) 3
      refine skip_ (w1 := ((((w'.setCell ⟨g3_, 0, none⟩ ((.slice b8_ st.length y8_))).setCell ⟨g3_, 1, none⟩ ((.slice b12_ ri.length y12_))).setCell ⟨g3_, 2, none⟩ (.slice none 0 0)).setCell ⟨g3_, 3, none⟩ ((.slice b16_ su.length y16_)))) (by rfl) rfl (by go_simp) ?_
      refine hK.out _ _ ⟨v5_, (.slice b8_ st.length y8_), v9_, (.slice b12_ ri.length y12_), v13_, (.slice b16_ su.length y16_), g3_, m12_, m13_, (by rw [ha.out]; exact putSel_none (v := undef) rfl), below_set (below_set (below_set (below_set (HBW.out) F3.out.1) F3.out.1) F3.out.1) F3.out.1, fun _ h1_ => absurd ((hon 3 (by kernel_rfl)).symm.trans h1_) (by decide), fun _ => R_set (R_set (R_set (R_set (R8.out) (F3.out.2) (by decide) 0 ((.slice b8_ st.length y8_))) (blk_set (F3.out.2) 0 ((.slice b8_ st.length y8_))) (by decide) 1 ((.slice b12_ ri.length y12_))) (blk_set (blk_set (F3.out.2) 0 ((.slice b8_ st.length y8_))) 1 ((.slice b12_ ri.length y12_))) (by decide) 2 (.slice none 0 0)) (blk_set (blk_set (blk_set (F3.out.2) 0 ((.slice b8_ st.length y8_))) 1 ((.slice b12_ ri.length y12_))) 2 (.slice none 0 0)) (by decide) 3 ((.slice b16_ su.length y16_)), fun _ h1_ => absurd ((hon 7 (by kernel_rfl)).symm.trans h1_) (by decide), fun _ => R_set (R_set (R_set (R_set (R12.out) (F3.out.2) (by decide) 0 ((.slice b8_ st.length y8_))) (blk_set (F3.out.2) 0 ((.slice b8_ st.length y8_))) (by decide) 1 ((.slice b12_ ri.length y12_))) (blk_set (blk_set (F3.out.2) 0 ((.slice b8_ st.length y8_))) 1 ((.slice b12_ ri.length y12_))) (by decide) 2 (.slice none 0 0)) (blk_set (blk_set (blk_set (F3.out.2) 0 ((.slice b8_ st.length y8_))) 1 ((.slice b12_ ri.length y12_))) 2 (.slice none 0 0)) (by decide) 3 ((.slice b16_ su.length y16_)), fun _ h1_ => absurd ((hon 11 (by kernel_rfl)).symm.trans h1_) (by decide), fun _ => R_set (R_set (R_set (R_set (R16.out) (F3.out.2) (by decide) 0 ((.slice b8_ st.length y8_))) (blk_set (F3.out.2) 0 ((.slice b8_ st.length y8_))) (by decide) 1 ((.slice b12_ ri.length y12_))) (blk_set (blk_set (F3.out.2) 0 ((.slice b8_ st.length y8_))) 1 ((.slice b12_ ri.length y12_))) (by decide) 2 (.slice none 0 0)) (blk_set (blk_set (blk_set (F3.out.2) 0 ((.slice b8_ st.length y8_))) 1 ((.slice b12_ ri.length y12_))) 2 (.slice none 0 0)) (by decide) 3 ((.slice b16_ su.length y16_)), fun _ h1_ => absurd ((up_self b 14).symm.trans h1_) (by decide), fun _ => ⟨F3.out.1, blk_set (blk_set (blk_set (blk_set (F3.out.2) 0 ((.slice b8_ st.length y8_))) 1 ((.slice b12_ ri.length y12_))) 2 (.slice none 0 0)) 3 ((.slice b16_ su.length y16_))⟩, Q_X12_, Q_X13_⟩
    exact steps_nil
  · rintro b a w' hall ⟨v5_, v8_, v9_, v12_, v13_, v16_, g3_, m12_, m13_, ha, Q_HBW, Q_R5, Q_R8, Q_R9, Q_R12, Q_R13, Q_R16, Q_F3, Q_S3, Q_X12_, Q_X13_⟩
    clear HBW
    have hb0_ := hall 0 (by kernel_rfl)
    have hb1_ := hall 1 (by kernel_rfl)
    have hb2_ := hall 2 (by kernel_rfl)
    have hb3_ := hall 3 (by kernel_rfl)
    have hb4_ := hall 4 (by kernel_rfl)
    have hb5_ := hall 5 (by kernel_rfl)
    have hb6_ := hall 6 (by kernel_rfl)
    have hb7_ := hall 7 (by kernel_rfl)
    have hb8_ := hall 8 (by kernel_rfl)
    have hb9_ := hall 9 (by kernel_rfl)
    have hb10_ := hall 10 (by kernel_rfl)
    have hb11_ := hall 11 (by kernel_rfl)
    have hb12_ := hall 12 (by kernel_rfl)
    have hb13_ := hall 13 (by kernel_rfl)
    have hb14_ := hall 14 (by kernel_rfl)
    subst ha
    obtain rfl := Q_X12_ hb12_
    obtain rfl := Q_X13_ hb13_
    simp only [putSel, hb0_, hb1_, hb2_, hb3_, hb4_, hb5_, hb6_, hb7_, hb8_, hb9_, hb10_, hb11_, hb12_, hb13_, hb14_, if_true, Act.put, List.setIfInBounds_toArray, List.set_cons_zero, List.set_cons_succ]
    have HBW := Aside0.mk Q_HBW
    clear Q_HBW
    clear Q_R5
    have R8 := Aside0.mk (Q_R8 hb3_)
    clear Q_R8
    clear Q_R9
    have R12 := Aside0.mk (Q_R12 hb7_)
    clear Q_R12
    clear Q_R13
    have R16 := Aside0.mk (Q_R16 hb11_)
    clear Q_R16
    clear Q_F3
    have S3 := Aside0.mk (Q_S3 hb14_)
    clear Q_S3
    clear hall hb0_ hb1_ hb2_ hb3_ hb4_ hb5_ hb6_ hb7_ hb8_ hb9_ hb10_ hb11_ hb12_ hb13_ hb14_
    have HBG := Aside0.mk (bt HB.out HBW.out)
    have HG3 := Aside0.mk S3.out.1
    clear W1
    go_wp2_with fail
    go_loopg [4] ca.length (fun gg s4 wr => ∃ (i : Nat) (v : Value), s4 = .int .i64 (i : Int) ∧ i ≤ ca.length ∧ ca.length - i ≤ gg ∧ Aside0 (Below W.heap.size W wr) ∧ Aside0 (Kd.R k65 65 wr W.heap.size (fun _ => True) v8_ st) ∧ Aside0 (Kd.R k55 55 wr W.heap.size (fun _ => True) v12_ ri) ∧ Aside0 (Kd.R k50 50 wr W.heap.size (fun _ => True) v16_ su) ∧ Aside0 (Kd.S (Kd.slice 61 k61) 59 wr W.heap.size (fun _ => True) v (ca.take i)) ∧ Aside0 (wr.heap[g3_]? = some (.cells #[v8_, v12_, v, v16_] 27 (0, 0))))
    case atStart => exact ⟨0, _, rfl, Nat.zero_le _, Nat.le_refl _, HBW, R8, R12, R16, ⟨by rw [List.take_zero]; exact Kd.S_nil _ _ _ _ _⟩, ⟨S3.out.2⟩⟩
    case round =>
      clear HBW R8 R12 R16 S3 HBG
      obtain ⟨i, v, rfl, hi, hgg, HBW, R8, R12, R16, SV, BX⟩ := hrel
      obtain ⟨B, cp, hv⟩ := Kd.S_slice SV.out
      have hln : (ca.take i).length = i := by rw [List.length_take]; omega
      rw [hln] at hv
      subst hv
      clear hln
      obtain ⟨W1, rfl⟩ : ∃ W1 : World, W1 = wr := ⟨_, rfl⟩
      have d2 := cb HBW.out D2.out
      by_cases hlt : i < ca.length
      · have hlti : (i : Int) < ca.length := by omega
        obtain ⟨ad, Ai, ci, hA, hcell, hcl, hCi⟩ := at_L3 HR2.out (i : Int) (by omega) hlti
        cases hA
        have hrd : rd_L3 ca (i : Int) = ca[i] := by simp [rd_L3, List.getD_eq_getElem?_getD, List.getElem?_eq_getElem hlt]
        have htk : ca.take (i + 1) = ca.take i ++ [ca[i]] := by rw [List.take_add_one, List.getElem?_eq_getElem hlt]; rfl
        have hcb : (ca[i]).length ≤ 64 := HCC.out _ (List.getElem_mem hlt)
        rw [hrd, Int.toNat_natCast] at hcell
        rw [hrd] at hcl hCi
        generalize hx : ca[i] = x at *
        have HC := Aside0.mk hcell
        have HCI := Aside0.mk hCi
        have HTK := Aside0.mk htk
        clear hcell hcl hCi htk hrd
        go_wp2_with fail
        clear d2
        have hw := wr64 (n := (i : Int)) (by omega) (by omega)
        have SV0 := SV
        clear SV
        have F3 := Aside0.mk (show W.heap.size ≤ g3_ ∧ W1.heap[g3_]? = some (.cells #[v8_, v12_, .slice B i cp, v16_] 27 (0, 0)) from ⟨HG3.out, BX.out⟩)
        have PH1 := Aside0.mk (show Kd.R k65 65 W1 W.heap.size (fun _ => True) v8_ st ∧ Kd.R k55 55 W1 W.heap.size (fun _ => True) v12_ ri ∧ Kd.R k50 50 W1 W.heap.size (fun _ => True) v16_ su from ⟨R8.out, R12.out, R16.out⟩)
        clear BX R8 R12 R16
        refine start_ (n := 13) (S := fun w' => True) (ds := []) #[false, false, false, false, false, false, false, false, false, false, false, false, false] (by kernel_rfl) rfl rfl trivial (fun hHeld => ?_)
        refine with_tabW copied.tab5 copied.bits5 (fun HT_ HW_ => ?_)
        replace HBW := Aside0.mk (below_drew HBW.out)
        replace F3 := Aside0.mk (show W.heap.size ≤ g3_ ∧ W1.drew.heap[g3_]? = some (.cells #[v8_, v12_, .slice B i cp, v16_] 27 (0, 0)) from F3.out)
        replace PH1 := Aside0.mk (show Kd.R k65 65 W1.drew W.heap.size (fun _ => True) v8_ st ∧ Kd.R k55 55 W1.drew W.heap.size (fun _ => True) v12_ ri ∧ Kd.R k50 50 W1.drew W.heap.size (fun _ => True) v16_ su from ⟨Kd.R_drew PH1.out.1, Kd.R_drew PH1.out.2.1, Kd.R_drew PH1.out.2.2⟩)
        replace SV0 := Aside0.mk (Kd.S_below SV0.out (below_drew (Below.refl _ _)))
        generalize W1.drew = W3 at *
        refine inv_at [0, 1, 2, 3, 4, 5, 6, 7, 8, 9, 10, 11, 12] (fun a0_ b a w' => ∃ (v27_ : Value) (v33_ : Value) (v35_ : Value) (q34_ : Nat) (wp_ : World) (m9_ : Value), a = putSel a0_ b [(0, 25, .pointer (some ⟨g3_, 2, none⟩)), (1, 26, .slice B i cp), (2, 27, v27_), (3, 28, .pointer (some ⟨w.heap.size, 2, none⟩)), (4, 29, .slice (some ad) ca.length n2), (5, 30, .int .i64 (i : Int)), (6, 31, .pointer (some (ad.add i))), (7, 32, .slice Ai x.length ci), (8, 33, v33_), (9, 34, m9_), (10, 35, v35_), (11, 36, .pointer (some ⟨g3_, 2, none⟩))] ∧ (Below W.heap.size W w') ∧ (b 12 = false → W.heap.size ≤ g3_ ∧ w'.heap[g3_]? = some (.cells #[v8_, v12_, .slice B i cp, v16_] 27 (0, 0))) ∧ (b 9 = false → Kd.R k65 65 w' W.heap.size (fun _ => True) v8_ st ∧ Kd.R k55 55 w' W.heap.size (fun _ => True) v12_ ri ∧ Kd.R k50 50 w' W.heap.size (fun _ => True) v16_ su) ∧ (b 2 = false → Kd.S (Kd.slice 61 k61) 59 w' W.heap.size (fun _ => True) (.slice B i cp) (ca.take i)) ∧ (b 2 = true → b 8 = false → Kd.S (Kd.slice 61 k61) 59 w' W.heap.size (fun k => True ∧ some k ≠ Value.ownBlock v27_) (.slice B i cp) (ca.take i)) ∧ (b 8 = true → b 9 = false → Kd.S (Kd.slice 61 k61) 59 w' W.heap.size (fun k => True ∧ some k ≠ Value.ownBlock v33_) (.slice B i cp) (ca.take i)) ∧ (b 2 = true → b 8 = false → Kd.R k61 61 w' W.heap.size (fun _ => True) v27_ []) ∧ (b 8 = true → b 9 = false → Kd.R k61 61 w' W.heap.size (fun _ => True) v33_ x) ∧ (b 9 = true → b 10 = false → w' = wp_.alloc (.cells #[v33_] 59) ∧ q34_ = wp_.heap.size ∧ Below W.heap.size W wp_ ∧ (wp_.heap[g3_]? = some (.cells #[v8_, v12_, .slice B i cp, v16_] 27 (0, 0))) ∧ (Kd.R k65 65 wp_ W.heap.size (fun _ => True) v8_ st ∧ Kd.R k55 55 wp_ W.heap.size (fun _ => True) v12_ ri ∧ Kd.R k50 50 wp_ W.heap.size (fun _ => True) v16_ su) ∧ (Kd.S (Kd.slice 61 k61) 59 wp_ W.heap.size (fun k => True ∧ some k ≠ Value.ownBlock v33_) (.slice B i cp) (ca.take i)) ∧ Kd.R k61 61 wp_ W.heap.size (fun _ => True) v33_ x) ∧ (b 10 = true → (Kd.R k65 65 w' W.heap.size (fun _ => True) v8_ st ∧ Kd.R k55 55 w' W.heap.size (fun _ => True) v12_ ri ∧ Kd.R k50 50 w' W.heap.size (fun _ => True) v16_ su) ∧ Kd.S (Kd.slice 61 k61) 59 w' W.heap.size (fun _ => True) (v35_) (ca.take i ++ [x])) ∧ (b 12 = true → W.heap.size ≤ g3_ ∧ w'.heap[g3_]? = some (.cells #[v8_, v12_, v35_, v16_] 27 (0, 0))) ∧ (b 9 = true → (m9_ : Value) = .slice (some ⟨q34_, 0, none⟩) 1 1)) HT_.out HW_.out (by kernel_rfl) (by kernel_rfl) ?_ ?_ ?_
        · exact ⟨.bool false, .bool false, .bool false, 0, W3, .bool false, by simp only [putSel, Bool.false_eq_true, if_false], HBW.out, fun _ => F3.out, fun _ => PH1.out, fun _ => SV0.out, fun h_ => absurd h_ (by decide), fun h_ => absurd h_ (by decide), fun h_ => absurd h_ (by decide), fun h_ => absurd h_ (by decide), fun h_ => absurd h_ (by decide), fun h_ => absurd h_ (by decide), fun h_ => absurd h_ (by decide), fun h_ => absurd h_ (by decide)⟩
        · skip
          clear F3 HBW PH1 SV0
          refine steps_cons ?_ ?_
          · rintro b a w' ⟨v27_, v33_, v35_, q34_, wp_, m9_, ha, Q_HBW, Q_F3, Q_PH1, Q_SV0, Q_SV1, Q_SV2, Q_R27, Q_R33, Q_PH2, Q_PH3, Q_S3, Q_X9_⟩ hb_ hon hoff
            refine ⟨_, rfl, fun K hK => ?_⟩
            have e3 : a.tmps[3]? = some (.pointer (some ⟨g3_, 0, none⟩)) := by rw [ha]; exact (putSel_off rfl).trans rfl
            replace ha := Aside0.mk ha
            have HBW := Aside0.mk Q_HBW
            have F3 := Aside0.mk (Q_F3 (hoff 12 (by kernel_rfl)))
            refine value_ (w1 := w') (v := .pointer (some ⟨g3_, 2, none⟩)) (by rfl) rfl ?_ ?_
            · go_simp
              (try simp only [i64_w])
              try rfl
            refine hK.out _ _ ⟨v27_, v33_, v35_, q34_, wp_, m9_, (by rw [ha.out]; exact putSel_upk 0 hb_ rfl rfl rfl), Q_HBW, Q_F3, Q_PH1, Q_SV0, Q_SV1, Q_SV2, Q_R27, Q_R33, Q_PH2, fun h0_ => absurd ((hoff 10 (by kernel_rfl)).symm.trans h0_) (by decide), fun h0_ => absurd ((hoff 12 (by kernel_rfl)).symm.trans h0_) (by decide), Q_X9_⟩
          refine steps_cons ?_ ?_
          · rintro b a w' ⟨v27_, v33_, v35_, q34_, wp_, m9_, ha, Q_HBW, Q_F3, Q_PH1, Q_SV0, Q_SV1, Q_SV2, Q_R27, Q_R33, Q_PH2, Q_PH3, Q_S3, Q_X9_⟩ hb_ hon hoff
            refine ⟨_, rfl, fun K hK => ?_⟩
            have e25 : a.tmps[25]? = some (.pointer (some ⟨g3_, 2, none⟩)) := by rw [ha]; exact putSel_on (e := (0, 25, .pointer (some ⟨g3_, 2, none⟩))) 0 rfl rfl (hon 0 (by kernel_rfl)) rfl
            replace ha := Aside0.mk ha
            have HBW := Aside0.mk Q_HBW
            have F3 := Aside0.mk (Q_F3 (hoff 12 (by kernel_rfl)))
            have k0_ := (blk_cell F3.out.2 2).trans rfl
            refine value_ (w1 := w') (v := .slice B i cp) (by rfl) rfl ?_ ?_
            · go_simp
              (try simp only [i64_w])
              try rfl
            refine hK.out _ _ ⟨v27_, v33_, v35_, q34_, wp_, m9_, (by rw [ha.out]; exact putSel_upk 1 hb_ rfl rfl rfl), Q_HBW, Q_F3, Q_PH1, Q_SV0, Q_SV1, Q_SV2, Q_R27, Q_R33, Q_PH2, fun h0_ => absurd ((hoff 10 (by kernel_rfl)).symm.trans h0_) (by decide), fun h0_ => absurd ((hoff 12 (by kernel_rfl)).symm.trans h0_) (by decide), Q_X9_⟩
          refine steps_cons ?_ ?_
          · rintro b a w' ⟨v27_, v33_, v35_, q34_, wp_, m9_, ha, Q_HBW, Q_F3, Q_PH1, Q_SV0, Q_SV1, Q_SV2, Q_R27, Q_R33, Q_PH2, Q_PH3, Q_S3, Q_X9_⟩ hb_ hon hoff
            refine ⟨_, rfl, fun K hK => ?_⟩
            replace ha := Aside0.mk ha
            have HBW := Aside0.mk Q_HBW
            have F3 := Aside0.mk (Q_F3 (hoff 12 (by kernel_rfl)))
            have PH1 := Aside0.mk (Q_PH1 (hoff 9 (by kernel_rfl)))
            have SV0 := Aside0.mk (Q_SV0 hb_)
            refine Kd.R_lit_step k61 W.heap.size 61 (by rfl) (N := 27) rfl (xs := ([] : List S61)) (inner := []) (ok := fun _ => True) (okp := fun _ => True) (by first | (go_simp; done) | (go_simp; rfl)) (Reps.none _ _) (fun _ hk => hk) trivial HBW.out HBW.out.size (by simp) ?_
            intro v_ w2 hR_ hB_ hg_ hat_
            refine hK.out _ _ ⟨v_, v33_, v35_, q34_, wp_, m9_, (by rw [ha.out]; exact putSel_upk 2 hb_ rfl rfl rfl), hB_, fun _ => ⟨F3.out.1, blk_grown F3.out.2 hg_ (by simp)⟩, fun _ => ⟨Kd.R_grown PH1.out.1 hg_ (fun _ _ => by simp), Kd.R_grown PH1.out.2.1 hg_ (fun _ _ => by simp), Kd.R_grown PH1.out.2.2 hg_ (fun _ _ => by simp)⟩, fun h0_ => absurd ((up_self b 2).symm.trans h0_) (by decide), fun _ _ => S_fresh SV0.out hg_ hat_, fun h0_ _ => absurd ((hoff 8 (by kernel_rfl)).symm.trans h0_) (by decide), fun _ _ => hR_, fun h0_ _ => absurd ((hoff 8 (by kernel_rfl)).symm.trans h0_) (by decide), fun h0_ _ => absurd ((hoff 9 (by kernel_rfl)).symm.trans h0_) (by decide), fun h0_ => absurd ((hoff 10 (by kernel_rfl)).symm.trans h0_) (by decide), fun h0_ => absurd ((hoff 12 (by kernel_rfl)).symm.trans h0_) (by decide), fun h0_ => absurd ((hoff 9 (by kernel_rfl)).symm.trans h0_) (by decide)⟩
          refine steps_cons ?_ ?_
          · rintro b a w' ⟨v27_, v33_, v35_, q34_, wp_, m9_, ha, Q_HBW, Q_F3, Q_PH1, Q_SV0, Q_SV1, Q_SV2, Q_R27, Q_R33, Q_PH2, Q_PH3, Q_S3, Q_X9_⟩ hb_ hon hoff
            refine ⟨_, rfl, fun K hK => ?_⟩
            have e1 : a.tmps[1]? = some (.pointer (some ⟨w.heap.size, 0, none⟩)) := by rw [ha]; exact (putSel_off rfl).trans rfl
            replace ha := Aside0.mk ha
            have HBW := Aside0.mk Q_HBW
            have F3 := Aside0.mk (Q_F3 (hoff 12 (by kernel_rfl)))
            have PH1 := Aside0.mk (Q_PH1 (hoff 9 (by kernel_rfl)))
            refine value_ (w1 := w') (v := .pointer (some ⟨w.heap.size, 2, none⟩)) (by rfl) rfl ?_ ?_
            · go_simp
              (try simp only [i64_w])
              try rfl
            refine hK.out _ _ ⟨v27_, v33_, v35_, q34_, wp_, m9_, (by rw [ha.out]; exact putSel_upk 3 hb_ rfl rfl rfl), Q_HBW, Q_F3, Q_PH1, Q_SV0, Q_SV1, fun h0_ _ => absurd ((hoff 8 (by kernel_rfl)).symm.trans h0_) (by decide), Q_R27, fun h0_ _ => absurd ((hoff 8 (by kernel_rfl)).symm.trans h0_) (by decide), fun h0_ _ => absurd ((hoff 9 (by kernel_rfl)).symm.trans h0_) (by decide), fun h0_ => absurd ((hoff 10 (by kernel_rfl)).symm.trans h0_) (by decide), fun h0_ => absurd ((hoff 12 (by kernel_rfl)).symm.trans h0_) (by decide), fun h0_ => absurd ((hoff 9 (by kernel_rfl)).symm.trans h0_) (by decide)⟩
          refine steps_cons ?_ ?_
          · rintro b a w' ⟨v27_, v33_, v35_, q34_, wp_, m9_, ha, Q_HBW, Q_F3, Q_PH1, Q_SV0, Q_SV1, Q_SV2, Q_R27, Q_R33, Q_PH2, Q_PH3, Q_S3, Q_X9_⟩ hb_ hon hoff
            refine ⟨_, rfl, fun K hK => ?_⟩
            have e28 : a.tmps[28]? = some (.pointer (some ⟨w.heap.size, 2, none⟩)) := by rw [ha]; exact putSel_on (e := (3, 28, .pointer (some ⟨w.heap.size, 2, none⟩))) 3 rfl rfl (hon 3 (by kernel_rfl)) rfl
            replace ha := Aside0.mk ha
            have HBW := Aside0.mk Q_HBW
            have F3 := Aside0.mk (Q_F3 (hoff 12 (by kernel_rfl)))
            have PH1 := Aside0.mk (Q_PH1 (hoff 9 (by kernel_rfl)))
            have k0_ := cb HBW.out D2.out
            refine value_ (w1 := w') (v := .slice (some ad) ca.length n2) (by rfl) rfl ?_ ?_
            · go_simp
              (try simp only [i64_w])
              try rfl
            refine hK.out _ _ ⟨v27_, v33_, v35_, q34_, wp_, m9_, (by rw [ha.out]; exact putSel_upk 4 hb_ rfl rfl rfl), Q_HBW, Q_F3, Q_PH1, Q_SV0, Q_SV1, fun h0_ _ => absurd ((hoff 8 (by kernel_rfl)).symm.trans h0_) (by decide), Q_R27, fun h0_ _ => absurd ((hoff 8 (by kernel_rfl)).symm.trans h0_) (by decide), fun h0_ _ => absurd ((hoff 9 (by kernel_rfl)).symm.trans h0_) (by decide), fun h0_ => absurd ((hoff 10 (by kernel_rfl)).symm.trans h0_) (by decide), fun h0_ => absurd ((hoff 12 (by kernel_rfl)).symm.trans h0_) (by decide), fun h0_ => absurd ((hoff 9 (by kernel_rfl)).symm.trans h0_) (by decide)⟩
          refine steps_cons ?_ ?_
          · rintro b a w' ⟨v27_, v33_, v35_, q34_, wp_, m9_, ha, Q_HBW, Q_F3, Q_PH1, Q_SV0, Q_SV1, Q_SV2, Q_R27, Q_R33, Q_PH2, Q_PH3, Q_S3, Q_X9_⟩ hb_ hon hoff
            refine ⟨_, rfl, fun K hK => ?_⟩
            have e4 : a.tmps[4]? = some (.int .i64 (i : Int)) := by rw [ha]; exact (putSel_off rfl).trans rfl
            replace ha := Aside0.mk ha
            have HBW := Aside0.mk Q_HBW
            have F3 := Aside0.mk (Q_F3 (hoff 12 (by kernel_rfl)))
            have PH1 := Aside0.mk (Q_PH1 (hoff 9 (by kernel_rfl)))
            refine value_ (w1 := w') (v := .int .i64 (i : Int)) (by rfl) rfl ?_ ?_
            · go_simp
              (try simp only [i64_w])
              try rfl
            refine hK.out _ _ ⟨v27_, v33_, v35_, q34_, wp_, m9_, (by rw [ha.out]; exact putSel_upk 5 hb_ rfl rfl rfl), Q_HBW, Q_F3, Q_PH1, Q_SV0, Q_SV1, fun h0_ _ => absurd ((hoff 8 (by kernel_rfl)).symm.trans h0_) (by decide), Q_R27, fun h0_ _ => absurd ((hoff 8 (by kernel_rfl)).symm.trans h0_) (by decide), fun h0_ _ => absurd ((hoff 9 (by kernel_rfl)).symm.trans h0_) (by decide), fun h0_ => absurd ((hoff 10 (by kernel_rfl)).symm.trans h0_) (by decide), fun h0_ => absurd ((hoff 12 (by kernel_rfl)).symm.trans h0_) (by decide), fun h0_ => absurd ((hoff 9 (by kernel_rfl)).symm.trans h0_) (by decide)⟩
          refine steps_cons ?_ ?_
          · rintro b a w' ⟨v27_, v33_, v35_, q34_, wp_, m9_, ha, Q_HBW, Q_F3, Q_PH1, Q_SV0, Q_SV1, Q_SV2, Q_R27, Q_R33, Q_PH2, Q_PH3, Q_S3, Q_X9_⟩ hb_ hon hoff
            refine ⟨_, rfl, fun K hK => ?_⟩
            have e29 : a.tmps[29]? = some (.slice (some ad) ca.length n2) := by rw [ha]; exact putSel_on (e := (4, 29, .slice (some ad) ca.length n2)) 4 rfl rfl (hon 4 (by kernel_rfl)) rfl
            have e30 : a.tmps[30]? = some (.int .i64 (i : Int)) := by rw [ha]; exact putSel_on (e := (5, 30, .int .i64 (i : Int))) 5 rfl rfl (hon 5 (by kernel_rfl)) rfl
            replace ha := Aside0.mk ha
            have HBW := Aside0.mk Q_HBW
            have F3 := Aside0.mk (Q_F3 (hoff 12 (by kernel_rfl)))
            have PH1 := Aside0.mk (Q_PH1 (hoff 9 (by kernel_rfl)))
            have k1_ : (0 : Int) ≤ (i : Int) := by omega
            have k2_ := hlti
            refine value_ (w1 := w') (v := .pointer (some (ad.add i))) (by rfl) rfl ?_ ?_
            · go_simp
              (try simp only [i64_w])
              try rfl
            refine hK.out _ _ ⟨v27_, v33_, v35_, q34_, wp_, m9_, (by rw [ha.out]; exact putSel_upk 6 hb_ rfl rfl rfl), Q_HBW, Q_F3, Q_PH1, Q_SV0, Q_SV1, fun h0_ _ => absurd ((hoff 8 (by kernel_rfl)).symm.trans h0_) (by decide), Q_R27, fun h0_ _ => absurd ((hoff 8 (by kernel_rfl)).symm.trans h0_) (by decide), fun h0_ _ => absurd ((hoff 9 (by kernel_rfl)).symm.trans h0_) (by decide), fun h0_ => absurd ((hoff 10 (by kernel_rfl)).symm.trans h0_) (by decide), fun h0_ => absurd ((hoff 12 (by kernel_rfl)).symm.trans h0_) (by decide), fun h0_ => absurd ((hoff 9 (by kernel_rfl)).symm.trans h0_) (by decide)⟩
          refine steps_cons ?_ ?_
          · rintro b a w' ⟨v27_, v33_, v35_, q34_, wp_, m9_, ha, Q_HBW, Q_F3, Q_PH1, Q_SV0, Q_SV1, Q_SV2, Q_R27, Q_R33, Q_PH2, Q_PH3, Q_S3, Q_X9_⟩ hb_ hon hoff
            refine ⟨_, rfl, fun K hK => ?_⟩
            have e31 : a.tmps[31]? = some (.pointer (some (ad.add i))) := by rw [ha]; exact putSel_on (e := (6, 31, .pointer (some (ad.add i)))) 6 rfl rfl (hon 6 (by kernel_rfl)) rfl
            replace ha := Aside0.mk ha
            have HBW := Aside0.mk Q_HBW
            have F3 := Aside0.mk (Q_F3 (hoff 12 (by kernel_rfl)))
            have PH1 := Aside0.mk (Q_PH1 (hoff 9 (by kernel_rfl)))
            have k0_ := cb HBW.out HC.out
            refine value_ (w1 := w') (v := .slice Ai x.length ci) (by rfl) rfl ?_ ?_
            · go_simp
              (try simp only [i64_w])
              try rfl
            refine hK.out _ _ ⟨v27_, v33_, v35_, q34_, wp_, m9_, (by rw [ha.out]; exact putSel_upk 7 hb_ rfl rfl rfl), Q_HBW, Q_F3, Q_PH1, Q_SV0, Q_SV1, fun h0_ _ => absurd ((hoff 8 (by kernel_rfl)).symm.trans h0_) (by decide), Q_R27, fun h0_ _ => absurd ((hoff 8 (by kernel_rfl)).symm.trans h0_) (by decide), fun h0_ _ => absurd ((hoff 9 (by kernel_rfl)).symm.trans h0_) (by decide), fun h0_ => absurd ((hoff 10 (by kernel_rfl)).symm.trans h0_) (by decide), fun h0_ => absurd ((hoff 12 (by kernel_rfl)).symm.trans h0_) (by decide), fun h0_ => absurd ((hoff 9 (by kernel_rfl)).symm.trans h0_) (by decide)⟩
          refine steps_cons ?_ ?_
          · rintro b a w' ⟨v27_, v33_, v35_, q34_, wp_, m9_, ha, Q_HBW, Q_F3, Q_PH1, Q_SV0, Q_SV1, Q_SV2, Q_R27, Q_R33, Q_PH2, Q_PH3, Q_S3, Q_X9_⟩ hb_ hon hoff
            refine ⟨_, rfl, fun K hK => ?_⟩
            have e27 : a.tmps[27]? = some (v27_) := by rw [ha]; exact putSel_on (e := (2, 27, v27_)) 2 rfl rfl (hon 2 (by kernel_rfl)) rfl
            have e32 : a.tmps[32]? = some (.slice Ai x.length ci) := by rw [ha]; exact putSel_on (e := (7, 32, .slice Ai x.length ci)) 7 rfl rfl (hon 7 (by kernel_rfl)) rfl
            replace ha := Aside0.mk ha
            have HBW := Aside0.mk Q_HBW
            have F3 := Aside0.mk (Q_F3 (hoff 12 (by kernel_rfl)))
            have PH1 := Aside0.mk (Q_PH1 (hoff 9 (by kernel_rfl)))
            have SV1 := Aside0.mk (Q_SV1 (hon 2 (by kernel_rfl)) hb_)
            have R27 := Aside0.mk (Q_R27 (hon 2 (by kernel_rfl)) hb_)
            refine Kd.R_append_rows_step k61 (w0 := W) W.heap.size (by rfl) (.tmp 27) (.tmp 32) 59 61 (.agg #[(.int .i64 0), (.int .i64 0), (.int .i64 0), (.int .i64 0), (.int .i64 0), (.int .i64 0), (.int .i64 0), (.int .i64 0)]) 64 rfl Try.underlying59 info61 rfl (by decide) (by decide) v27_ [] x Ai x.length ci (fun _ => True) (fun _ => False) (by simp only [Act.eval, Array.getD_eq_getD_getElem?, Option.getD_some, e27]) (by simp only [Act.eval, Array.getD_eq_getD_getElem?, Option.getD_some, e32]) R27.out (Kd.C_below HCI.out HBW.out) (fun x cs h => by rw [k61_open h]; exact k61_mkM _ _ _ x) (fun _ h => h.elim) (fun _ _ => trivial) HBW.out HBW.out.size (by simp only [List.length_nil]; omega) ?_
            intro v_ w2 hR_ hB_ hg_ hat_
            refine hK.out _ _ ⟨v27_, v_, v35_, q34_, wp_, m9_, (by rw [ha.out]; exact putSel_upk 8 hb_ rfl rfl rfl), hB_, fun _ => ⟨F3.out.1, blk_grown F3.out.2 hg_ (Kd.R_ne R27.out F3.out.2 (by decide))⟩, fun _ => ⟨Kd.R_over PH1.out.1 R27.out (by decide) hg_, Kd.R_over PH1.out.2.1 R27.out (by decide) hg_, Kd.R_over PH1.out.2.2 R27.out (by decide) hg_⟩, fun h0_ => absurd ((hon 2 (by kernel_rfl)).symm.trans h0_) (by decide), fun _ h1_ => absurd ((up_self b 8).symm.trans h1_) (by decide), fun _ _ => Kd.S_after SV1.out hg_ hat_, fun _ h1_ => absurd ((up_self b 8).symm.trans h1_) (by decide), fun _ _ => hR_, fun h0_ _ => absurd ((hoff 9 (by kernel_rfl)).symm.trans h0_) (by decide), fun h0_ => absurd ((hoff 10 (by kernel_rfl)).symm.trans h0_) (by decide), fun h0_ => absurd ((hoff 12 (by kernel_rfl)).symm.trans h0_) (by decide), fun h0_ => absurd ((hoff 9 (by kernel_rfl)).symm.trans h0_) (by decide)⟩
          refine steps_cons ?_ ?_
          · rintro b a w' ⟨v27_, v33_, v35_, q34_, wp_, m9_, ha, Q_HBW, Q_F3, Q_PH1, Q_SV0, Q_SV1, Q_SV2, Q_R27, Q_R33, Q_PH2, Q_PH3, Q_S3, Q_X9_⟩ hb_ hon hoff
            refine ⟨_, rfl, fun K hK => ?_⟩
            have e33 : a.tmps[33]? = some (v33_) := by rw [ha]; exact putSel_on (e := (8, 33, v33_)) 8 rfl rfl (hon 8 (by kernel_rfl)) rfl
            replace ha := Aside0.mk ha
            have HBW := Aside0.mk Q_HBW
            have F3 := Aside0.mk (Q_F3 (hoff 12 (by kernel_rfl)))
            have PH1 := Aside0.mk (Q_PH1 hb_)
            have SV2 := Aside0.mk (Q_SV2 (hon 8 (by kernel_rfl)) hb_)
            have R33 := Aside0.mk (Q_R33 (hon 8 (by kernel_rfl)) hb_)
            obtain ⟨b33_, y33_, rfl⟩ := Kd.R_slice R33.out
            refine value_ (w1 := w'.alloc (.cells #[(.slice b33_ x.length y33_)] 59)) (v := .slice (some ⟨w'.heap.size, 0, none⟩) 1 1) (by rfl) rfl (by go_simp) ?_
            have hbb := b1 w' (.cells #[(.slice b33_ x.length y33_)] 59)
            refine hK.out _ _ ⟨v27_, (.slice b33_ x.length y33_), v35_, w'.heap.size, w', (.slice (some ⟨w'.heap.size, 0, none⟩) 1 1), (by rw [ha.out]; exact putSel_upk 9 hb_ rfl rfl rfl), bt HBW.out hbb, fun _ => ⟨F3.out.1, blk_below F3.out.2 hbb⟩, fun h0_ => absurd ((up_self b 9).symm.trans h0_) (by decide), fun h0_ => absurd ((hon 2 (by kernel_rfl)).symm.trans h0_) (by decide), fun _ h1_ => absurd ((hon 8 (by kernel_rfl)).symm.trans h1_) (by decide), fun _ h1_ => absurd ((up_self b 9).symm.trans h1_) (by decide), fun _ h1_ => absurd ((hon 8 (by kernel_rfl)).symm.trans h1_) (by decide), fun _ h1_ => absurd ((up_self b 9).symm.trans h1_) (by decide), fun _ _ => ⟨rfl, rfl, HBW.out, F3.out.2, PH1.out, SV2.out, R33.out⟩, fun h0_ => absurd ((hoff 10 (by kernel_rfl)).symm.trans h0_) (by decide), fun h0_ => absurd ((hoff 12 (by kernel_rfl)).symm.trans h0_) (by decide), fun _ => rfl⟩
          refine steps_cons ?_ ?_
          · rintro b a w' ⟨v27_, v33_, v35_, q34_, wp_, m9_, ha, Q_HBW, Q_F3, Q_PH1, Q_SV0, Q_SV1, Q_SV2, Q_R27, Q_R33, Q_PH2, Q_PH3, Q_S3, Q_X9_⟩ hb_ hon hoff
            refine ⟨_, rfl, fun K hK => ?_⟩
            have e26 : a.tmps[26]? = some (.slice B i cp) := by rw [ha]; exact putSel_on (e := (1, 26, .slice B i cp)) 1 rfl rfl (hon 1 (by kernel_rfl)) rfl
            have e34 : a.tmps[34]? = some (m9_) := by rw [ha]; exact putSel_on (e := (9, 34, m9_)) 9 rfl rfl (hon 9 (by kernel_rfl)) rfl
            rw [Q_X9_ (hon 9 (by kernel_rfl))] at e34
            replace ha := Aside0.mk ha
            have HBW := Aside0.mk Q_HBW
            have F3 := Aside0.mk (Q_F3 (hoff 12 (by kernel_rfl)))
            have PH2 := Aside0.mk (Q_PH2 (hon 9 (by kernel_rfl)) hb_)
            obtain ⟨p1_, p2_, p3_, p4_, p5_, p6_, p7_⟩ := PH2.out
            rw [p2_] at e34
            have f3_ := F3.out.1
            clear HBW F3 PH2
            subst p1_
            refine Kd.S_append_step (Kd.slice 61 k61) (w0 := W) W.heap.size (by rfl) (.tmp 26) (.tmp 34) 24 59 (.slice none 0 0) 24 rfl Try.underlying24 info59 rfl (by decide) (by decide) (.slice B i cp) (ca.take i) x [v33_] (fun _ => True) (fun k => some k = v33_.ownBlock) (by simp only [Act.eval, Array.getD_eq_getD_getElem?, Option.getD_some, e26]) (by simp only [Act.eval, Array.getD_eq_getD_getElem?, Option.getD_some, e34]) (Kd.M_row (Kd.R_tight rfl p7_)) (fun k hk => ⟨trivial, fun e => ((Kd.S_R p6_).1 k e.symm).2 hk⟩) (fun _ _ => trivial) p6_ p3_ p3_.size (by rw [List.length_take]; omega) ?_
            intro v_ w2 hR_ hB_ hg_ hat_
            refine hK.out _ _ ⟨v27_, v33_, v_, q34_, wp_, m9_, (by rw [ha.out]; exact putSel_upk 10 hb_ rfl rfl rfl), hB_, fun _ => ⟨f3_, blk_grown p4_ hg_ (Kd.S_ne p6_ p4_ (by decide))⟩, fun h0_ => absurd ((hon 9 (by kernel_rfl)).symm.trans h0_) (by decide), fun h0_ => absurd ((hon 2 (by kernel_rfl)).symm.trans h0_) (by decide), fun _ h1_ => absurd ((hon 8 (by kernel_rfl)).symm.trans h1_) (by decide), fun _ h1_ => absurd ((hon 9 (by kernel_rfl)).symm.trans h1_) (by decide), fun _ h1_ => absurd ((hon 8 (by kernel_rfl)).symm.trans h1_) (by decide), fun _ h1_ => absurd ((hon 9 (by kernel_rfl)).symm.trans h1_) (by decide), fun _ h1_ => absurd ((up_self b 10).symm.trans h1_) (by decide), fun _ => ⟨⟨Kd.R_over p5_.1 (Kd.S_R p6_) (by decide) hg_, Kd.R_over p5_.2.1 (Kd.S_R p6_) (by decide) hg_, Kd.R_over p5_.2.2 (Kd.S_R p6_) (by decide) hg_⟩, hR_⟩, fun h0_ => absurd ((hoff 12 (by kernel_rfl)).symm.trans h0_) (by decide), Q_X9_⟩
          refine steps_cons ?_ ?_
          · rintro b a w' ⟨v27_, v33_, v35_, q34_, wp_, m9_, ha, Q_HBW, Q_F3, Q_PH1, Q_SV0, Q_SV1, Q_SV2, Q_R27, Q_R33, Q_PH2, Q_PH3, Q_S3, Q_X9_⟩ hb_ hon hoff
            refine ⟨_, rfl, fun K hK => ?_⟩
            have e3 : a.tmps[3]? = some (.pointer (some ⟨g3_, 0, none⟩)) := by rw [ha]; exact (putSel_off rfl).trans rfl
            replace ha := Aside0.mk ha
            have HBW := Aside0.mk Q_HBW
            have F3 := Aside0.mk (Q_F3 (hoff 12 (by kernel_rfl)))
            have PH3 := Aside0.mk (Q_PH3 (hon 10 (by kernel_rfl)))
            refine value_ (w1 := w') (v := .pointer (some ⟨g3_, 2, none⟩)) (by rfl) rfl ?_ ?_
            · go_simp
              (try simp only [i64_w])
              try rfl
            refine hK.out _ _ ⟨v27_, v33_, v35_, q34_, wp_, m9_, (by rw [ha.out]; exact putSel_upk 11 hb_ rfl rfl rfl), Q_HBW, Q_F3, fun h0_ => absurd ((hon 9 (by kernel_rfl)).symm.trans h0_) (by decide), fun h0_ => absurd ((hon 2 (by kernel_rfl)).symm.trans h0_) (by decide), fun _ h1_ => absurd ((hon 8 (by kernel_rfl)).symm.trans h1_) (by decide), fun _ h1_ => absurd ((hon 9 (by kernel_rfl)).symm.trans h1_) (by decide), fun _ h1_ => absurd ((hon 8 (by kernel_rfl)).symm.trans h1_) (by decide), fun _ h1_ => absurd ((hon 9 (by kernel_rfl)).symm.trans h1_) (by decide), fun _ h1_ => absurd ((hon 10 (by kernel_rfl)).symm.trans h1_) (by decide), Q_PH3, fun h0_ => absurd ((hoff 12 (by kernel_rfl)).symm.trans h0_) (by decide), Q_X9_⟩
          refine steps_cons ?_ ?_
          · rintro b a w' ⟨v27_, v33_, v35_, q34_, wp_, m9_, ha, Q_HBW, Q_F3, Q_PH1, Q_SV0, Q_SV1, Q_SV2, Q_R27, Q_R33, Q_PH2, Q_PH3, Q_S3, Q_X9_⟩ hb_ hon hoff
            refine ⟨_, rfl, fun K hK => ?_⟩
            have e36 : a.tmps[36]? = some (.pointer (some ⟨g3_, 2, none⟩)) := by rw [ha]; exact putSel_on (e := (11, 36, .pointer (some ⟨g3_, 2, none⟩))) 11 rfl rfl (hon 11 (by kernel_rfl)) rfl
            have e35 : a.tmps[35]? = some (v35_) := by rw [ha]; exact putSel_on (e := (10, 35, v35_)) 10 rfl rfl (hon 10 (by kernel_rfl)) rfl
            replace ha := Aside0.mk ha
            have HBW := Aside0.mk Q_HBW
            have F3 := Aside0.mk (Q_F3 hb_)
            have PH3 := Aside0.mk (Q_PH3 (hon 10 (by kernel_rfl)))
            obtain ⟨b35_, y35_, rfl⟩ := Kd.S_slice PH3.out.2
            have c2 := (blk_cell F3.out.2 2).trans rfl
            have f2 := blk_frozen F3.out.2 2
            refine skip_ (w1 := w'.setCell ⟨g3_, 2, none⟩ (.slice b35_ (ca.take i ++ [x]).length y35_)) (by rfl) rfl (by go_simp) ?_
            refine hK.out _ _ ⟨v27_, v33_, (.slice b35_ (ca.take i ++ [x]).length y35_), q34_, wp_, m9_, (by rw [ha.out]; exact putSel_none (v := undef) rfl), below_set HBW.out F3.out.1, fun h0_ => absurd ((up_self b 12).symm.trans h0_) (by decide), fun h0_ => absurd ((hon 9 (by kernel_rfl)).symm.trans h0_) (by decide), fun h0_ => absurd ((hon 2 (by kernel_rfl)).symm.trans h0_) (by decide), fun _ h1_ => absurd ((hon 8 (by kernel_rfl)).symm.trans h1_) (by decide), fun _ h1_ => absurd ((hon 9 (by kernel_rfl)).symm.trans h1_) (by decide), fun _ h1_ => absurd ((hon 8 (by kernel_rfl)).symm.trans h1_) (by decide), fun _ h1_ => absurd ((hon 9 (by kernel_rfl)).symm.trans h1_) (by decide), fun _ h1_ => absurd ((hon 10 (by kernel_rfl)).symm.trans h1_) (by decide), fun _ => ⟨⟨R_set PH3.out.1.1 F3.out.2 (by decide) 2 _, R_set PH3.out.1.2.1 F3.out.2 (by decide) 2 _, R_set PH3.out.1.2.2 F3.out.2 (by decide) 2 _⟩, S_set PH3.out.2 F3.out.2 (by decide) 2 _⟩, fun _ => ⟨F3.out.1, blk_set F3.out.2 2 _⟩, Q_X9_⟩
          exact steps_nil
        · rintro b a w' hall ⟨v27_, v33_, v35_, q34_, wp_, m9_, ha, Q_HBW, Q_F3, Q_PH1, Q_SV0, Q_SV1, Q_SV2, Q_R27, Q_R33, Q_PH2, Q_PH3, Q_S3, Q_X9_⟩
          clear F3 HBW PH1 SV0
          have hb0_ := hall 0 (by kernel_rfl)
          have hb1_ := hall 1 (by kernel_rfl)
          have hb2_ := hall 2 (by kernel_rfl)
          have hb3_ := hall 3 (by kernel_rfl)
          have hb4_ := hall 4 (by kernel_rfl)
          have hb5_ := hall 5 (by kernel_rfl)
          have hb6_ := hall 6 (by kernel_rfl)
          have hb7_ := hall 7 (by kernel_rfl)
          have hb8_ := hall 8 (by kernel_rfl)
          have hb9_ := hall 9 (by kernel_rfl)
          have hb10_ := hall 10 (by kernel_rfl)
          have hb11_ := hall 11 (by kernel_rfl)
          have hb12_ := hall 12 (by kernel_rfl)
          subst ha
          obtain rfl := Q_X9_ hb9_
          simp only [putSel, hb0_, hb1_, hb2_, hb3_, hb4_, hb5_, hb6_, hb7_, hb8_, hb9_, hb10_, hb11_, hb12_, if_true, Act.put, List.setIfInBounds_toArray, List.set_cons_zero, List.set_cons_succ]
          have HBW := Aside0.mk Q_HBW
          clear Q_HBW
          clear Q_F3
          clear Q_PH1
          clear Q_SV0
          clear Q_SV1
          clear Q_SV2
          clear Q_R27
          clear Q_R33
          clear Q_PH2
          have PH3 := Aside0.mk (Q_PH3 hb10_)
          clear Q_PH3
          have S3 := Aside0.mk (Q_S3 hb12_)
          clear Q_S3
          clear hall hb0_ hb1_ hb2_ hb3_ hb4_ hb5_ hb6_ hb7_ hb8_ hb9_ hb10_ hb11_ hb12_
          go_wp2_with fail
          go_roundg (ca.length - (i + 1))
          case measure => omega
          case rel => exact ⟨i + 1, v35_, by simp, hlt, Nat.le_refl _, HBW, ⟨PH3.out.1.1⟩, ⟨PH3.out.1.2.1⟩, ⟨PH3.out.1.2.2⟩, ⟨by rw [HTK.out]; exact PH3.out.2⟩, ⟨S3.out.2⟩⟩
      · obtain rfl : i = ca.length := by omega
        rw [List.take_length] at SV
        have BX2 := blk_below HB2.out HBW.out
        obtain ⟨b8_, y8_, rfl⟩ := Kd.R_slice R8.out
        obtain ⟨b12_, y12_, rfl⟩ := Kd.R_slice R12.out
        obtain ⟨b16_, y16_, rfl⟩ := Kd.R_slice R16.out
        have g0 := (blk_cell BX.out 0).trans rfl
        have g1 := (blk_cell BX.out 1).trans rfl
        have g2 := (blk_cell BX.out 2).trans rfl
        have g3 := (blk_cell BX.out 3).trans rfl
        have BX2' := Aside0.mk BX2
        clear BX2
        have c0 := (blk_cell (BX2'.out) 0).trans rfl
        have f0 := blk_frozen (BX2'.out) 0
        have c1 := (blk_cell (blk_set (BX2'.out) 0 (.slice b8_ st.length y8_)) 1).trans rfl
        have f1 := blk_frozen (blk_set (BX2'.out) 0 (.slice b8_ st.length y8_)) 1
        have c2 := (blk_cell (blk_set (blk_set (BX2'.out) 0 (.slice b8_ st.length y8_)) 1 (.slice b12_ ri.length y12_)) 2).trans rfl
        have f2 := blk_frozen (blk_set (blk_set (BX2'.out) 0 (.slice b8_ st.length y8_)) 1 (.slice b12_ ri.length y12_)) 2
        have c3 := (blk_cell (blk_set (blk_set (blk_set (BX2'.out) 0 (.slice b8_ st.length y8_)) 1 (.slice b12_ ri.length y12_)) 2 (.slice B ca.length cp)) 3).trans rfl
        have f3 := blk_frozen (blk_set (blk_set (blk_set (BX2'.out) 0 (.slice b8_ st.length y8_)) 1 (.slice b12_ ri.length y12_)) 2 (.slice B ca.length cp)) 3
        go_wp2_with fail
        refine bodyPost_ret (results_cell_row rfl _ _ (w.heap.size + 1) 27 #[.slice b8_ st.length y8_, .slice b12_ ri.length y12_, .slice B ca.length cp, .slice b16_ su.length y16_] (0, 0) _ rfl (blk_set (blk_set (blk_set (blk_set (BX2'.out) 0 (.slice b8_ st.length y8_)) 1 (.slice b12_ ri.length y12_)) 2 (.slice B ca.length cp)) 3 (.slice b16_ su.length y16_)) Try.underlying27 rfl rfl) rfl ?_
        exact ⟨_, _, _, _, rfl, Kd.R_lower (R_set (R_set (R_set (R_set (R8.out) (BX2'.out) (by decide) 0 _) (blk_set (BX2'.out) 0 (.slice b8_ st.length y8_)) (by decide) 1 _) (blk_set (blk_set (BX2'.out) 0 (.slice b8_ st.length y8_)) 1 (.slice b12_ ri.length y12_)) (by decide) 2 _) (blk_set (blk_set (blk_set (BX2'.out) 0 (.slice b8_ st.length y8_)) 1 (.slice b12_ ri.length y12_)) 2 (.slice B ca.length cp)) (by decide) 3 _) HB.out.size, Kd.R_lower (R_set (R_set (R_set (R_set (R12.out) (BX2'.out) (by decide) 0 _) (blk_set (BX2'.out) 0 (.slice b8_ st.length y8_)) (by decide) 1 _) (blk_set (blk_set (BX2'.out) 0 (.slice b8_ st.length y8_)) 1 (.slice b12_ ri.length y12_)) (by decide) 2 _) (blk_set (blk_set (blk_set (BX2'.out) 0 (.slice b8_ st.length y8_)) 1 (.slice b12_ ri.length y12_)) 2 (.slice B ca.length cp)) (by decide) 3 _) HB.out.size, Kd.S_lower (S_set (S_set (S_set (S_set (SV.out) (BX2'.out) (by decide) 0 _) (blk_set (BX2'.out) 0 (.slice b8_ st.length y8_)) (by decide) 1 _) (blk_set (blk_set (BX2'.out) 0 (.slice b8_ st.length y8_)) 1 (.slice b12_ ri.length y12_)) (by decide) 2 _) (blk_set (blk_set (blk_set (BX2'.out) 0 (.slice b8_ st.length y8_)) 1 (.slice b12_ ri.length y12_)) 2 (.slice B ca.length cp)) (by decide) 3 _) HB.out.size, Kd.R_lower (R_set (R_set (R_set (R_set (R16.out) (BX2'.out) (by decide) 0 _) (blk_set (BX2'.out) 0 (.slice b8_ st.length y8_)) (by decide) 1 _) (blk_set (blk_set (BX2'.out) 0 (.slice b8_ st.length y8_)) 1 (.slice b12_ ri.length y12_)) (by decide) 2 _) (blk_set (blk_set (blk_set (BX2'.out) 0 (.slice b8_ st.length y8_)) 1 (.slice b12_ ri.length y12_)) 2 (.slice B ca.length cp)) (by decide) 3 _) HB.out.size, below_set (below_set (below_set (below_set (bt HB.out HBW.out) (Nat.le_succ _)) (Nat.le_succ _)) (Nat.le_succ _)) (Nat.le_succ _)⟩
/-- A land in memory of its own. -/
structure Own (X : Rv) (base : Nat) (W : World) : Prop where
  r0 : Kd.R k65 65 W base (fun _ => True) (.slice X.A0 X.st.length X.c0) X.st
  r1 : Kd.R k55 55 W base (fun _ => True) (.slice X.A1 X.ri.length X.c1) X.ri
  r2 : Kd.S (Kd.slice 61 k61) 59 W base (fun _ => True) (.slice X.A2 X.ca.length X.c2) X.ca
  r3 : Kd.R k50 50 W base (fun _ => True) (.slice X.A3 X.su.length X.c3) X.su
theorem Own.below {X : Rv} {base : Nat} {W W' : World} (h : Own X base W) (hb : Below W.heap.size W W') : Own X base W' := ⟨Kd.R_below h.r0 hb, Kd.R_below h.r1 hb, Kd.S_below h.r2 hb, Kd.R_below h.r3 hb⟩
theorem Own.inn {X : Rv} {base : Nat} {W : World} (h : Own X base W) : X.In W :=
  ⟨(Kd.R_reads' h.r0).2.2, (Kd.R_reads' h.r0).2.1, (Kd.R_reads' h.r1).2.2, (Kd.R_reads' h.r1).2.1, (Kd.R_reads' (Kd.S_R h.r2)).2.2, (Kd.R_reads' (Kd.S_R h.r2)).2.1, (Kd.R_reads' h.r3).2.2, (Kd.R_reads' h.r3).2.1⟩
theorem Own.lower {X : Rv} {base base' : Nat} {W : World} (h : Own X base W) (hb : base' ≤ base) : Own X base' W := ⟨Kd.R_lower h.r0 hb, Kd.R_lower h.r1 hb, Kd.S_lower h.r2 hb, Kd.R_lower h.r3 hb⟩
/-- The same, in a box. -/
structure Cp (X : Rv) (g base : Nat) (W : World) : Prop where
  box : W.heap[g]? = some (.cells X.cells 27 (0, 0))
  own : Own X base W
  ge : base ≤ g
theorem Cp.below {X : Rv} {g base : Nat} {W W' : World} (h : Cp X g base W) (hb : Below W.heap.size W W') : Cp X g base W' := ⟨blk_below h.box hb, h.own.below hb, h.ge⟩
theorem Cp.x0 {X : Rv} {g base : Nat} {W : World} (h : Cp X g base W) : W.cell? ⟨g, 0, none⟩ = some (.slice X.A0 X.st.length X.c0) := blk_cell h.box 0
theorem Cp.x1 {X : Rv} {g base : Nat} {W : World} (h : Cp X g base W) : W.cell? ⟨g, 1, none⟩ = some (.slice X.A1 X.ri.length X.c1) := blk_cell h.box 1
theorem Cp.x2 {X : Rv} {g base : Nat} {W : World} (h : Cp X g base W) : W.cell? ⟨g, 2, none⟩ = some (.slice X.A2 X.ca.length X.c2) := blk_cell h.box 2
theorem Cp.x3 {X : Rv} {g base : Nat} {W : World} (h : Cp X g base W) : W.cell? ⟨g, 3, none⟩ = some (.slice X.A3 X.su.length X.c3) := blk_cell h.box 3
theorem Own.set27 {X : Rv} {base g : Nat} {W : World} (h : Own X base W) {cells : Array Value} (hb : W.heap[g]? = some (.cells cells 27 (0, 0))) (j : Nat) (u : Value) : Own X base (W.setCell ⟨g, j, none⟩ u) :=
  ⟨R_set h.r0 hb (by decide) j u, R_set h.r1 hb (by decide) j u, S_set h.r2 hb (by decide) j u, R_set h.r3 hb (by decide) j u⟩
theorem copied_v (a0 : Rv) (w : World) (h0 : a0.In w) (hs : a0.st.length ≤ 64) (hr : a0.ri.length ≤ 64) (hc : a0.ca.length ≤ 64) (hcc : ∀ c ∈ a0.ca, c.length ≤ 64) (hu : a0.su.length ≤ 64) :
    Calls Try.prog 32 #[.agg a0.cells] w fun e w' => ∃ B0 d0 B1 d1 B2 d2 B3 d3, e = .returned (.agg #[.slice B0 a0.st.length d0, .slice B1 a0.ri.length d1, .slice B2 a0.ca.length d2, .slice B3 a0.su.length d3]) ∧ Own ⟨a0.st, a0.ri, a0.ca, a0.su, B0, B1, B2, B3, d0, d1, d2, d3⟩ w.heap.size w' ∧ Below w.heap.size w w' :=
  (copied_c a0 w h0 hs hr hc hcc hu).mono fun e w' ⟨v0, v1, v2, v3, he, h0, h1, h2, h3, hb⟩ => by
    obtain ⟨B0, d0, rfl⟩ := Kd.R_slice h0
    obtain ⟨B1, d1, rfl⟩ := Kd.R_slice h1
    obtain ⟨B2, d2, rfl⟩ := Kd.S_slice h2
    obtain ⟨B3, d3, rfl⟩ := Kd.R_slice h3
    exact ⟨B0, d0, B1, d1, B2, d2, B3, d3, he, ⟨h0, h1, h2, h3⟩, hb⟩
def g65 (x : S65) : List Value := [.int .i64 x.f0, .int .i64 x.f1, .int .i64 x.f2, .int .i64 x.f3]
/-- A station of the copy: its cells, and a store into one. -/
theorem Cp.st {X : Rv} {g base : Nat} {W : World} (h : Cp X g base W) (i : Int) (h0 : 0 ≤ i) (h1 : i < X.st.length) :
    ∃ q, X.A0 = some ⟨q, 0, none⟩ ∧ base ≤ q ∧ (∀ k u, (g65 (rd_T65 X.st i))[k]? = some u → W.cell? ⟨q, i.toNat * 4 + k, none⟩ = some u) ∧ (∀ k, W.frozen? ⟨q, i.toNat * 4 + k, none⟩ = false) ∧
      ∀ (k : Nat) (u : Value) (x' : S65), k < 4 → (g65 (rd_T65 X.st i)).take k ++ [u] ++ (g65 (rd_T65 X.st i)).drop (k + 1) = g65 x' →
        Cp { X with st := X.st.set i.toNat x' } g base (W.setCell ⟨q, i.toNat * 4 + k, none⟩ u) := by
  obtain ⟨bx, ⟨r0, r1, r2, r3⟩, ge⟩ := h
  have hA : ∃ ad, X.A0 = some ad := by
    obtain ⟨ad, e, _⟩ := (Kd.R_reads' r0).2.2.2.2 (by omega)
    exact ⟨ad, e⟩
  obtain ⟨ad, hA⟩ := hA
  rw [hA] at r0
  obtain ⟨q, rfl⟩ := Kd.R_head r0
  obtain ⟨c, hcl, hM, hcc, hfr⟩ := Kd.R_elem r0 ⟨0, 0, 0, 0⟩ i h0 h1
  have hc : c = g65 (rd_T65 X.st i) := k65_openM hM
  subst hc
  refine ⟨q, hA, Kd.R_base r0 q rfl, hcc, hfr, fun k u x' hk hx => ?_⟩
  obtain ⟨k0, k1⟩ := Kd.R_seg (okp := fun _ => False) (seg := [u]) (j := k) (x' := x') r0 i h0 h1 hcl hcc (by show k + 1 ≤ 4; omega) (by show k65.M W base _ x' _; rw [List.length_singleton, hx]; exact k65_mkM _ _ _ _) (fun _ h => h.elim)
  refine ⟨?_, ⟨?_, ?_, ?_, ?_⟩, ge⟩
  · have := blk_grown bx k1 (Kd.R_ne r0 bx (by decide))
    simp only [Rv.cells, List.length_set] at this ⊢
    exact this
  · simp only [List.length_set, hA]
    exact k0
  · exact Kd.R_over r1 r0 (by decide) k1
  · exact Kd.S_over' r2 (Kd.R_typed r0) (by decide) k1
  · exact Kd.R_over r3 r0 (by decide) k1
section
variable {P : Program} {ops : Array Oper} {rest : List Oper} {o : Oper} {a : Act} {Q : Exit → Act → World → Prop} {W : World}
theorem gate_st {t : TypeId} {p : Tmp} {v : Operand} (_ho : o.op = .store t (.tmp p) v) (h : wpList P ops Q (o :: rest) a W) : wpList P ops Q (o :: rest) a W := h
/-- A store, the world behind it told by its facts. -/
theorem put_ev {w1 : World} (F : World → Prop) (hgd : o.guard = none) {t : TypeId} {p : Tmp} {v : Operand} (_ho : o.op = .store t (.tmp p) v) (hN : o.dst = none)
    (hrun : (execOp a.eval o).run P W = .ok .skip w1) (hF : F w1) (h : ∀ w', F w' → wpList P ops Q rest a w') : wpList P ops Q (o :: rest) a W := by
  refine wpList_plain hgd fun K hK => ?_
  unfold Oper.wp
  rw [hrun]
  show K (a.put o.dst undef) w1
  rw [hN]
  exact hK _ _ (h _ hF)
end
end Go.Proofs.Ytkbdphjnpieceaa.G
