/- The reference's Walls. -/
import Derived.Test.YtkbdphjnpieceaaR4
import Derived.BigRegion
import Derived.Deep.DeepCutAuto
namespace Go.Proofs.Ytkbdphjnpieceaa.G
open Go.RowKit Go.Proofs.YtkbdphjnpieceaaW.PrintWords Go.Proofs.YtkbdphjnpieceaaW.PrintLast Go.Proofs.YtkbdphjnpieceaaW.PrintMore
open Go.Sort (grow)
set_option linter.unusedVariables false
set_option linter.unusedSimpArgs false

theorem two_new (W : World) (o1 o2 : Obj) : ((W.alloc o1).alloc o2).drew.heap[W.heap.size]? = some o1 ∧ ((W.alloc o1).alloc o2).drew.heap[W.heap.size + 1]? = some o2 :=
  ⟨blk_alloc (blk_new W o1) o2, by have h := blk_new (W.alloc o1) o2; rwa [World.size_alloc] at h⟩
set_option maxHeartbeats 8000000 in
set_option maxRecDepth 100000 in
theorem walls_w (sa sb : S65) (st : List S65) (ri : List S55) (ca : List (List S61)) (cs : List S61) (A0 A1 A2 A3 : Option Addr) (n3 c0 c1 c2 c3 : Nat) (f t k h : Int) (P Q : Int → Bool) (w : World)
    (hr0 : Kd.C k65 w A0 st.length st) (hr1 : Kd.C k55 w A1 ri.length ri) (hr2 : Kd.C (Kd.slice 61 k61) w A2 ca.length ca)
    (hf0 : 0 ≤ f) (hf : f < st.length) (ht0 : 0 ≤ t) (ht : t < st.length) (hk0 : 0 ≤ k) (hk : k < ca.length) (ha : sa = rd_T65 st f) (hb : sb = rd_T65 st t) (hc : cs = rd_L3 ca k) (oa : okSt (cSt sa)) (ob : okSt (cSt sb))
    (lr : ri.length ≤ 1000) (lc : cs.length ≤ 1000) (orr : ∀ i : Int, 0 ≤ i → i < ri.length → okWl (cWl (rd_T55 ri i))) (oc : ∀ i : Int, 0 ≤ i → i < cs.length → okWl (cWl (rd_T61 cs i).f0))
    (hP : ∀ i : Int, P i = blocksB (cWl (rd_T55 ri i)) (cSt sa) (cSt sb)) (hQ : ∀ i : Int, Q i = (inB h (rd_T61 cs i).f1 (rd_T61 cs i).f2 && blocksB (cWl (rd_T61 cs i).f0) (cSt sa) (cSt sb))) :
    Calls Try.prog 43 #[.agg #[.slice A0 st.length c0, .slice A1 ri.length c1, .slice A2 ca.length c2, .slice A3 n3 c3], .int .i64 f, .int .i64 t, .int .i64 k, .int .i64 h] w fun e w' => ∃ v0 v1 : Value, e = .returned (.tuple #[v0, v1]) ∧ Kd.R (Kd.int .i64) 3 w' w.heap.size (fun _ => True) v0 (filK P ri.length) ∧ Kd.R (Kd.int .i64) 3 w' w.heap.size (fun _ => True) v1 (filK Q cs.length) ∧ Below w.heap.size w w' := by
  obtain ⟨ad, e0, x0, x1, x2, x3⟩ := at_T65 hr0 f hf0 hf
  obtain ⟨ad', e0', y0, y1, y2, y3⟩ := at_T65 hr0 t ht0 ht
  obtain ⟨ae, A', c', e2, kc, kl, kC⟩ := at_L3 hr2 k hk0 hk
  cases e0
  cases e0'
  cases e2
  rw [← ha] at x0 x1 x2 x3
  rw [← hb] at y0 y1 y2 y3
  rw [← hc] at kc kl kC
  clear ha hb hc
  have l0 := hr0.2.1
  have l2 := hr2.2.1
  have H1 := Aside0.mk hr1
  have KC := Aside0.mk (And.intro kc kC)
  have HP := Aside0.mk hP
  have HQ := Aside0.mk hQ
  have HO := Aside0.mk (And.intro orr oc)
  have HK := Aside0.mk (And.intro oa ob)
  clear hr0 hr1 hr2 kc kC hP hQ orr oc
  go_enter Try.func43, Try.ntmps43
  go_wp2_with fail
  refine wp_abs (fun W => Below w.heap.size w W ∧ W.cell? ⟨w.heap.size, 0, none⟩ = some (.slice (some ad) st.length c0) ∧ W.cell? ⟨w.heap.size, 1, none⟩ = some (.slice A1 ri.length c1) ∧ W.cell? ⟨w.heap.size, 2, none⟩ = some (.slice (some ae) ca.length c2)) ⟨b1 _ _, cnew rfl rfl, cnew rfl rfl, cnew rfl rfl⟩ ?_
  rintro W ⟨hb, D0, D1, D2⟩
  replace x0 := cb hb x0
  replace x1 := cb hb x1
  replace x2 := cb hb x2
  replace x3 := cb hb x3
  replace y0 := cb hb y0
  replace y1 := cb hb y1
  replace y2 := cb hb y2
  replace y3 := cb hb y3
  have s1 : w.heap.size < W.heap.size := World.block_lt_of_cell? W _ D0
  have s2 := World.block_lt_of_cell? W _ x0
  have s3 := World.block_lt_of_cell? W _ y0
  have HB := Aside0.mk hb
  have HD12 := Aside0.mk (And.intro D1 D2)
  clear hb D1 D2
  go_cut [12, 13] (fun s12 s13 wx => ∃ ga gb : Nat, s12 = .pointer (some ⟨ga, 0, none⟩) ∧ s13 = .pointer (some ⟨gb, 0, none⟩) ∧ Below W.heap.size W wx ∧ wx.heap[ga]? = some (.cells #[.int .i64 sa.f0, .int .i64 sa.f1, .int .i64 sa.f2, .int .i64 sa.f3] 65 (0, 0)) ∧ wx.heap[gb]? = some (.cells #[.int .i64 sb.f0, .int .i64 sb.f1, .int .i64 sb.f2, .int .i64 sb.f3] 65 (0, 0)))
  case first =>
    have q1 : w.heap.size ≠ W.heap.size := by omega
    have q2 : (ad.add (f.toNat * 4)).block ≠ W.heap.size := by omega
    have q3 : (ad.add (t.toNat * 4)).block ≠ W.heap.size := by omega
    have q5 : w.heap.size ≠ W.heap.size + 1 := by omega
    have q6 : (ad.add (f.toNat * 4)).block ≠ W.heap.size + 1 := by omega
    have q7 : (ad.add (t.toNat * 4)).block ≠ W.heap.size + 1 := by omega
    go_region
    all_goals go_wp2_with fail
    all_goals go_meet
    · exact ⟨_, _, rfl, rfl, below_drew (below_alloc (b1 _ _) _), (two_new _ _ _).1, (two_new _ _ _).2⟩
    · exact ⟨_, _, rfl, rfl, below_drew (below_alloc (b1 _ _) _), (two_new _ _ _).2, (two_new _ _ _).1⟩
  case rest =>
    obtain ⟨ga, gb, rfl, rfl, hbx, ba, bb⟩ := hcut
    have HBA := Aside0.mk ba
    have HBB := Aside0.mk bb
    have D1 := cb hbx HD12.out.1
    replace HD12 := Aside0.mk (And.intro D1 (cb hbx HD12.out.2))
    replace HB := Aside0.mk (bt HB.out hbx)
    clear ba bb hbx x0 x1 x2 x3 y0 y1 y2 y3 s1 s2 s3 D0
    go_wp2_with fail
    go_loopg [14, 16] ri.length (fun gg s14 s16 wr => ∃ i : Int, s16 = .int .i64 i ∧ 0 ≤ i ∧ i ≤ (ri.length : Int) ∧ (ri.length : Int) - i ≤ (gg : Int) ∧ Aside0 (Below wc.heap.size wc wr) ∧ Aside0 (Kd.R (Kd.int .i64) 3 wr wc.heap.size (fun _ => True) s14 (filK P i.toNat)))
    case atStart => exact ⟨0, rfl, by omega, by omega, by omega, ⟨Below.refl _ _⟩, ⟨Kd.R_nil _ _ _ _ _⟩⟩
    case round =>
      clear D1
      obtain ⟨i, rfl, h0, h1, hg, BC, BR⟩ := hrel
      have d1 := cb BC.out HD12.out.1
      obtain ⟨W2, rfl⟩ : ∃ W2 : World, W2 = wr := ⟨_, rfl⟩
      by_cases hlt : i < (ri.length : Int)
      · have HBB2 := Aside0.mk (bt HB.out BC.out)
        obtain ⟨az, e0, x0, x1, x2, x3, x4, x5⟩ := at_T55 (Kd.C_below H1.out HBB2.out) i h0 hlt
        cases e0
        have hln := filK_len P i.toNat
        have HN := Aside0.mk (filK_succ P i.toNat)
        have ei : ((i.toNat : Nat) : Int) = i := Int.toNat_of_nonneg h0
        rw [ei] at HN
        have HPI := Aside0.mk (HP.out i)
        have HW := Aside0.mk (HO.out.1 i h0 hlt)
        have HS1 : Aside0 ((i + 1).toNat = i.toNat + 1) := ⟨by omega⟩
        clear ei
        have A := blk_below HBA.out BC.out
        have B := blk_below HBB.out BC.out
        have a0 := (blk_cell A 0).trans rfl
        have a1 := (blk_cell A 1).trans rfl
        have a2 := (blk_cell A 2).trans rfl
        have a3 := (blk_cell A 3).trans rfl
        have b0 := (blk_cell B 0).trans rfl
        have b1' := (blk_cell B 1).trans rfl
        have b2 := (blk_cell B 2).trans rfl
        have b3 := (blk_cell B 3).trans rfl
        clear A B
        go_wp2_with fail
        replace d1 := fun d os => cell_regrown d1 d os
        replace x0 := fun d os => cell_regrown x0 d os
        replace x1 := fun d os => cell_regrown x1 d os
        replace x2 := fun d os => cell_regrown x2 d os
        replace x3 := fun d os => cell_regrown x3 d os
        replace x4 := fun d os => cell_regrown x4 d os
        replace x5 := fun d os => cell_regrown x5 d os
        replace a0 := fun d os => cell_regrown a0 d os
        replace a1 := fun d os => cell_regrown a1 d os
        replace a2 := fun d os => cell_regrown a2 d os
        replace a3 := fun d os => cell_regrown a3 d os
        replace b0 := fun d os => cell_regrown b0 d os
        replace b1' := fun d os => cell_regrown b1' d os
        replace b2 := fun d os => cell_regrown b2 d os
        replace b3 := fun d os => cell_regrown b3 d os
        refine wp_region_quiet_below (by kernel_rfl) (by kernel_rfl) ?_
        repeat (go_big_quiet_step (exact Calls.regrown_of (rblocks_c (rd_T55 ri i) sa sb HW.out HK.out.1 HK.out.2 _)))
        refine wpQuiet_nil ?_
        intro _ hw'
        obtain ⟨⟨dq, osq⟩, hw''⟩ := hw'
        subst hw''
        have hb2 := below_regrown W2 dq osq
        have BC1 := Aside0.mk (bt BC.out hb2)
        have BR1 := Aside0.mk (Kd.R_below BR.out hb2)
        clear hb2 d1 x0 x1 x2 x3 x4 x5 a0 a1 a2 a3 b0 b1' b2 b3 BC BR HBB2
        generalize grow (redrawn W2 dq) osq = W3 at *
        generalize hbv : blocksB (cWl (rd_T55 ri i)) (cSt sa) (cSt sb) = bv at *
        have HBV := Aside0.mk hbv
        clear hbv
        cases bv
        · go_wp2_with fail
          go_roundg (ri.length - (i + 1).toNat)
          case measure => omega
          case rel => exact ⟨i + 1, by first | rfl | go_num, by omega, by omega, by omega, BC1, ⟨by rw [HS1.out, HN.out, if_neg (by rw [HPI.out]; decide)]; exact BR1.out⟩⟩
        · go_wp2_with (first | ((with_reducible refine gate_builtin (b := .append) (xs := #[.tmp 44, .tmp 46]) rfl ?_); at_builtin; refine Kd.R_append (Kd.int .i64) (w0 := wc) wc.heap.size rfl (.tmp 44) (.tmp 46) 30 3 (.int .i64 0) 8 rfl Try.underlying30 info3 rfl (by decide) (by omega) _ (filK P i.toNat) i [.int .i64 i] (fun _ => True) (fun _ => False) rfl rfl ?aP (fun _ hk => hk.elim) ?aF ?aO ?aB ?aS ?aL ?_; (case aP => exact rfl); (case aB => exact BC1.out); (case aF => exact (fun _ _ => trivial)); (case aO => exact BR1.out); (case aS => exact below_size BC1.out); (case aL => omega); intro v3 w4 ho hb hg4 hat; have BC2 := Aside0.mk hb; have BR2 := Aside0.mk ho; clear BC1 BR1; clear ho hb hg4 hat))
          go_roundg (ri.length - (i + 1).toNat)
          case measure => omega
          case rel => exact ⟨i + 1, by first | rfl | go_num, by omega, by omega, by omega, BC2, ⟨by rw [HS1.out, HN.out, if_pos HPI.out]; exact BR2.out⟩⟩
      · have e : i = (ri.length : Int) := by omega
        subst e
        rw [Int.toNat_natCast] at BR
        have hb0 := bt HB.out BC.out
        have kc := cb hb0 KC.out.1
        have d2 := cb BC.out HD12.out.2
        have BR0 := Aside0.mk (Kd.R_apart_nil BR.out)
        have HKC := Aside0.mk kc
        have lcc := KC.out.2.2.1
        go_wp2_with fail
        clear d1
        go_loopg [15, 17] cs.length (fun gg s15 s17 wr => ∃ i : Int, s17 = .int .i64 i ∧ 0 ≤ i ∧ i ≤ (cs.length : Int) ∧ (cs.length : Int) - i ≤ (gg : Int) ∧ Aside0 (Below wc.heap.size wc wr) ∧ Aside0 (Kd.R (Kd.int .i64) 3 wr wc.heap.size (fun k => True ∧ some k ≠ s15.ownBlock) u14 (filK P ri.length)) ∧ Aside0 (Kd.R (Kd.int .i64) 3 wr wc.heap.size (fun _ => True) s15 (filK Q i.toNat)))
        case atStart => exact ⟨0, rfl, by omega, by omega, by omega, BC, BR0, ⟨Kd.R_nil _ _ _ _ _⟩⟩
        case round =>
          clear BC BR0 BR kc d2 hb0
          obtain ⟨i, rfl, h0, h1, hg, BC, BR0, BR⟩ := hrel
          have d2 := cb BC.out HD12.out.2
          obtain ⟨W2, rfl⟩ : ∃ W2 : World, W2 = wr := ⟨_, rfl⟩
          have HBB2 := Aside0.mk (bt HB.out BC.out)
          have kc := cb HBB2.out KC.out.1
          by_cases hlt : i < (cs.length : Int)
          · obtain ⟨az, e0, x0, x1, x2, x3, x4, x5, x6, x7⟩ := at_T61 (Kd.C_below KC.out.2 HBB2.out) i h0 hlt
            cases e0
            have hln := filK_len Q i.toNat
            have HN := Aside0.mk (filK_succ Q i.toNat)
            have ei : ((i.toNat : Nat) : Int) = i := Int.toNat_of_nonneg h0
            rw [ei] at HN
            have HQI := Aside0.mk (HQ.out i)
            have HW := Aside0.mk (HO.out.2 i h0 hlt)
            have HS1 : Aside0 ((i + 1).toNat = i.toNat + 1) := ⟨by omega⟩
            clear ei
            have hbn := b1 W2 (.cells #[.int .i64 (rd_T61 cs i).f0.f0, .int .i64 (rd_T61 cs i).f0.f1, .int .i64 (rd_T61 cs i).f0.f2, .int .i64 (rd_T61 cs i).f0.f3, .int .i64 (rd_T61 cs i).f0.f4, .int .i64 (rd_T61 cs i).f0.f5, .int .i64 (rd_T61 cs i).f1, .int .i64 (rd_T61 cs i).f2] 61)
            have A := blk_below (blk_below HBA.out BC.out) hbn
            have B := blk_below (blk_below HBB.out BC.out) hbn
            have a0 := (blk_cell A 0).trans rfl
            have a1 := (blk_cell A 1).trans rfl
            have a2 := (blk_cell A 2).trans rfl
            have a3 := (blk_cell A 3).trans rfl
            have b0 := (blk_cell B 0).trans rfl
            have b1' := (blk_cell B 1).trans rfl
            have b2 := (blk_cell B 2).trans rfl
            have b3 := (blk_cell B 3).trans rfl
            have BC0 := Aside0.mk (bt BC.out hbn)
            have BR00 := Aside0.mk (Kd.R_below BR0.out hbn)
            have BR10 := Aside0.mk (Kd.R_below BR.out hbn)
            clear A B hbn BC BR BR0 HBB2
            go_wp2_with fail
            refine (in_c _ _ _ _).mono ?_
            rintro e w1 ⟨rfl, rfl⟩
            generalize hr1 : inB h (rd_T61 cs i).f1 (rd_T61 cs i).f2 = r1 at *
            have HR1 := Aside0.mk hr1
            clear hr1
            cases r1
            · go_wp2_with fail
              go_roundg (cs.length - (i + 1).toNat)
              case measure => omega
              case rel => exact ⟨i + 1, by first | rfl | go_num, by omega, by omega, by omega, BC0, BR00, ⟨by rw [HS1.out, HN.out, if_neg (by rw [HQI.out]; simp)]; exact BR10.out⟩⟩
            go_wp2_with fail
            refine (rblocks_c (rd_T61 cs i).f0 sa sb HW.out HK.out.1 HK.out.2 _).mono ?_
            rintro e w5 ⟨rfl, hb5⟩
            have BC1 := Aside0.mk (bt BC0.out hb5)
            have BR01 := Aside0.mk (Kd.R_below BR00.out hb5)
            have BR11 := Aside0.mk (Kd.R_below BR10.out hb5)
            clear hb5 BC0 BR00 BR10 x0 x1 x2 x3 x4 x5 x6 x7 a0 a1 a2 a3 b0 b1' b2 b3 d2 kc
            generalize hbv : blocksB (cWl (rd_T61 cs i).f0) (cSt sa) (cSt sb) = bv at *
            have HBV := Aside0.mk hbv
            clear hbv
            cases bv
            · go_wp2_with fail
              go_roundg (cs.length - (i + 1).toNat)
              case measure => omega
              case rel => exact ⟨i + 1, by first | rfl | go_num, by omega, by omega, by omega, BC1, BR01, ⟨by rw [HS1.out, HN.out, if_neg (by rw [HQI.out]; decide)]; exact BR11.out⟩⟩
            · go_wp2_with (first | ((with_reducible refine gate_builtin (b := .append) (xs := #[.tmp 79, .tmp 81]) rfl ?_); at_builtin; refine Kd.R_append (Kd.int .i64) (w0 := wc) wc.heap.size rfl (.tmp 79) (.tmp 81) 30 3 (.int .i64 0) 8 rfl Try.underlying30 info3 rfl (by decide) (by omega) _ (filK Q i.toNat) i [.int .i64 i] (fun _ => True) (fun _ => False) rfl rfl ?aP (fun _ hk => hk.elim) ?aF ?aO ?aB ?aS ?aL ?_; (case aP => exact rfl); (case aB => exact BC1.out); (case aF => exact (fun _ _ => trivial)); (case aO => exact BR11.out); (case aS => exact below_size BC1.out); (case aL => omega); intro v3 w4 ho hb hg4 hat; have BC2 := Aside0.mk hb; have BR12 := Aside0.mk ho; have BR02 := Aside0.mk (Kd.R_after BR01.out hg4 hat); clear BC1 BR01 BR11; clear ho hb hg4 hat))
              go_roundg (cs.length - (i + 1).toNat)
              case measure => omega
              case rel => exact ⟨i + 1, by first | rfl | go_num, by omega, by omega, by omega, BC2, BR02, ⟨by rw [HS1.out, HN.out, if_pos (by rw [HQI.out]; rfl)]; exact BR12.out⟩⟩
          · have e : i = (cs.length : Int) := by omega
            subst e
            rw [Int.toNat_natCast] at BR
            go_wp2_with fail
            ((try simp only [Exit.inBlock, Exit.then]); refine bodyPost_ret (results_tmp2 rfl _ _ _) rfl ?_)
            exact ⟨_, _, rfl, Kd.R_lower (Kd.R_drop BR0.out) HB.out.size, Kd.R_lower BR.out HB.out.size, bt HB.out BC.out⟩
end Go.Proofs.Ytkbdphjnpieceaa.G
