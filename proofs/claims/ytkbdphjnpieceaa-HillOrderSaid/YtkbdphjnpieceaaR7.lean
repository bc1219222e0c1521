/- The reference's Can, Rise. -/
import Derived.Test.YtkbdphjnpieceaaR6
namespace Go.Proofs.Ytkbdphjnpieceaa.G
open Go.RowKit Go.Proofs.YtkbdphjnpieceaaW.PrintWords Go.Proofs.YtkbdphjnpieceaaW.PrintLast Go.Proofs.YtkbdphjnpieceaaW.PrintMore
open Go.Sort (grow)
set_option linter.unusedVariables false
set_option linter.unusedSimpArgs false

theorem rcan_c (R : Rv) (f t k h : Int) (w : World) (hI : R.In w) (hL : R.lv.Ok) (hM : R.lv.Mir) (hA : R.lv.At f t k h) :
    Calls Try.prog 24 #[.agg R.cells, .int .i64 f, .int .i64 t, .int .i64 k, .int .i64 h] w fun e w' => e = .returned (.bool (canF R.lv f t k h)) ∧ Below w.heap.size w w' := by
  have CW := Aside0.mk fun W hb => rwhy_c R f t k h W (hI.below hb) hL hM hA
  have HE : Aside0 (canF R.lv f t k h = (decide (f ≠ t) && decide ((whyF R.lv f t k h).1 = 0))) := ⟨rfl⟩
  clear hI hL hM hA
  simp only [Rv.cells] at *
  generalize whyF R.lv f t k h = p at *
  generalize canF R.lv f t k h = c at *
  have HB := Aside0.mk (b1 w (.cells #[.slice R.A0 R.st.length R.c0, .slice R.A1 R.ri.length R.c1, .slice R.A2 R.ca.length R.c2, .slice R.A3 R.su.length R.c3] 27))
  by_cases hft : f = t
  · have HE1 : Aside0 (c = false) := ⟨by rw [HE.out]; simp [hft]⟩
    subst hft
    go_enter Try.func24, Try.ntmps24
    go_wp2_with fail
    go_ret
    exact ⟨ret_bool HE1.out.symm, HB.out⟩
  · have HE1 : Aside0 (c = decide (p.1 = 0)) := ⟨by rw [HE.out]; simp [hft]⟩
    have t1 : (f == t) = false := by simpa using hft
    clear HE hft
    go_enter Try.func24, Try.ntmps24
    go_wp2_with fail
    refine (CW.out _ HB.out).mono ?_
    rintro e w1 ⟨rfl, hb1⟩
    have HB1 := Aside0.mk (bt HB.out hb1)
    clear hb1
    cases t2 : (p.1 == 0)
    · have HE2 : Aside0 (c = false) := ⟨by rw [HE1.out]; simpa using t2⟩
      go_wp2_with fail
      go_ret
      exact ⟨ret_bool HE2.out.symm, HB1.out⟩
    · have HE2 : Aside0 (c = true) := ⟨by rw [HE1.out]; simpa using t2⟩
      go_wp2_with fail
      go_ret
      exact ⟨ret_bool HE2.out.symm, HB1.out⟩

/-- The first number from n on that passes, of d numbers; -1 if none. -/
def lin (p : Int → Bool) : Nat → Int → Int
  | 0, _ => -1
  | d + 1, n => if p n = true then n else lin p d (n + 1)
def allK (p : Int → Bool) (k : Nat) : Bool := (List.range k).all fun j => p j
theorem allK_succ (p : Int → Bool) (k : Nat) : allK p (k + 1) = (allK p k && p k) := by
  unfold allK
  rw [List.range_succ, List.all_append]
  simp
theorem all_allK {α : Type} (p : α → Bool) (xs : List α) (z : α) : xs.all p = allK (fun i => p (xs.getD i.toNat z)) xs.length := by
  rw [Bool.eq_iff_iff]
  unfold allK
  simp only [List.all_eq_true, List.mem_range, Int.toNat_natCast]
  constructor
  · intro h i hi
    refine h _ ?_
    rw [List.getD_eq_getElem?_getD, List.getElem?_eq_getElem hi]
    exact List.getElem_mem _
  · intro h x hx
    obtain ⟨i, hi, rfl⟩ := List.getElem_of_mem hx
    have := h i hi
    rwa [List.getD_eq_getElem?_getD, List.getElem?_eq_getElem hi] at this

set_option maxHeartbeats 8000000 in
set_option maxRecDepth 100000 in
theorem rise_w (sa sb : S65) (st : List S65) (ri : List S55) (A0 A1 A2 A3 : Option Addr) (n2 n3 c0 c1 c2 c3 : Nat) (f t : Int) (F : Int → Bool) (P : Int → Int → Bool) (w : World)
    (hr0 : Kd.C k65 w A0 st.length st) (hr1 : Kd.C k55 w A1 ri.length ri)
    (hf0 : 0 ≤ f) (hf : f < st.length) (ht0 : 0 ≤ t) (ht : t < st.length) (ha : sa = rd_T65 st f) (hb : sb = rd_T65 st t) (oa : okSt (cSt sa)) (ob : okSt (cSt sb))
    (lr : ri.length ≤ 1000) (orr : ∀ i : Int, 0 ≤ i → i < ri.length → okWl (cWl (rd_T55 ri i)))
    (hP : ∀ n i : Int, P n i = !blocksB (cWl (rd_T55 ri i)) (upS (cSt sa) n) (cSt sb)) (hF : ∀ n, F n = allK (P n) ri.length) :
    Calls Try.prog 29 #[.agg #[.slice A0 st.length c0, .slice A1 ri.length c1, .slice A2 n2 c2, .slice A3 n3 c3], .int .i64 f, .int .i64 t] w fun e w' => e = .returned (.int .i64 (lin F (1001 - sa.f2).toNat 0)) ∧ Below w.heap.size w w' := by
  obtain ⟨ad, e0, x0, x1, x2, x3⟩ := at_T65 hr0 f hf0 hf
  obtain ⟨ad', e0', y0, y1, y2, y3⟩ := at_T65 hr0 t ht0 ht
  cases e0
  cases e0'
  rw [← ha] at x0 x1 x2 x3
  rw [← hb] at y0 y1 y2 y3
  clear ha hb
  have l0 := hr0.2.1
  have H1 := Aside0.mk hr1
  have HP := Aside0.mk hP
  have HF := Aside0.mk hF
  have HO := Aside0.mk orr
  have HK := Aside0.mk (And.intro oa ob)
  have hz := oa.2.2
  simp only [cSt] at hz
  clear hr0 hr1 hP hF orr oa ob
  have HR : Aside0 (lin F (1001 - sa.f2).toNat 0 = lin F (1001 - sa.f2 - 0).toNat 0) := ⟨by rw [Int.sub_zero]⟩
  generalize lin F (1001 - sa.f2).toNat 0 = res at *
  go_enter Try.func29, Try.ntmps29
  go_wp2_with fail
  refine wp_abs (fun W => Below w.heap.size w W ∧ W.cell? ⟨w.heap.size, 0, none⟩ = some (.slice (some ad) st.length c0) ∧ W.cell? ⟨w.heap.size, 1, none⟩ = some (.slice A1 ri.length c1)) ⟨b1 _ _, cnew rfl rfl, cnew rfl rfl⟩ ?_
  rintro W ⟨hb, D0, D1⟩
  replace x0 := cb hb x0
  replace x1 := cb hb x1
  replace x2 := cb hb x2
  replace x3 := cb hb x3
  replace y0 := cb hb y0
  replace y1 := cb hb y1
  replace y2 := cb hb y2
  replace y3 := cb hb y3
  have s1 : w.heap.size < W.heap.size := World.block_lt_of_cell? W _ D0
  have s2 := World.block_lt_of_cell? W _ x0
  have s3 := World.block_lt_of_cell? W _ y0
  have HB := Aside0.mk hb
  have HD1 := Aside0.mk D1
  clear hb D1
  go_cut [7, 8] (fun s12 s13 wx => ∃ ga gb : Nat, s12 = .pointer (some ⟨ga, 0, none⟩) ∧ s13 = .pointer (some ⟨gb, 0, none⟩) ∧ Below W.heap.size W wx ∧ wx.heap[ga]? = some (.cells #[.int .i64 sa.f0, .int .i64 sa.f1, .int .i64 sa.f2, .int .i64 sa.f3] 65 (0, 0)) ∧ wx.heap[gb]? = some (.cells #[.int .i64 sb.f0, .int .i64 sb.f1, .int .i64 sb.f2, .int .i64 sb.f3] 65 (0, 0)))
  case first =>
    have q1 : w.heap.size ≠ W.heap.size := by omega
    have q2 : (ad.add (f.toNat * 4)).block ≠ W.heap.size := by omega
    have q3 : (ad.add (t.toNat * 4)).block ≠ W.heap.size := by omega
    have q5 : w.heap.size ≠ W.heap.size + 1 := by omega
    have q6 : (ad.add (f.toNat * 4)).block ≠ W.heap.size + 1 := by omega
    have q7 : (ad.add (t.toNat * 4)).block ≠ W.heap.size + 1 := by omega
    go_region
    all_goals go_wp2_with fail
    all_goals go_meet
    · exact ⟨_, _, rfl, rfl, below_drew (below_alloc (b1 _ _) _), (two_new _ _ _).1, (two_new _ _ _).2⟩
    · exact ⟨_, _, rfl, rfl, below_drew (below_alloc (b1 _ _) _), (two_new _ _ _).2, (two_new _ _ _).1⟩
  case rest =>
    obtain ⟨ga, gb, rfl, rfl, hbx, ba, bb⟩ := hcut
    have HBA := Aside0.mk ba
    have HBB := Aside0.mk bb
    replace HD1 := Aside0.mk (cb hbx HD1.out)
    replace HB := Aside0.mk (bt HB.out hbx)
    clear ba bb hbx x0 x1 x2 x3 y0 y1 y2 y3 s1 s2 s3 D0
    go_wp2_with fail
    go_loopg [9] 1002 (fun gg s9 wr => ∃ n : Int, s9 = .int .i64 n ∧ 0 ≤ n ∧ n ≤ 1001 - sa.f2 ∧ 1001 - n ≤ (gg : Int) ∧ Aside0 (Below wc.heap.size wc wr) ∧ Aside0 (res = lin F (1001 - sa.f2 - n).toNat n))
    case atStart => exact ⟨0, rfl, by omega, by omega, by omega, ⟨Below.refl _ _⟩, HR⟩
    case round =>
      clear HR
      obtain ⟨n, rfl, h0, h1, hg, BC, HR⟩ := hrel
      obtain ⟨W2, rfl⟩ : ∃ W2 : World, W2 = wr := ⟨_, rfl⟩
      have A := blk_below HBA.out BC.out
      have a0 := (blk_cell A 0).trans rfl
      have a1 := (blk_cell A 1).trans rfl
      have a2 := (blk_cell A 2).trans rfl
      have a3 := (blk_cell A 3).trans rfl
      have hw := wr64 (n := sa.f2 + n) (by omega) (by omega)
      clear A
      by_cases hlt : sa.f2 + n ≤ 1000
      · have hd : (1001 - sa.f2 - n).toNat = (1001 - sa.f2 - (n + 1)).toNat + 1 := by omega
        replace HR : Aside0 (res = if F n = true then n else lin F (1001 - sa.f2 - (n + 1)).toNat (n + 1)) := ⟨by rw [HR.out, hd]; rfl⟩
        clear hd
        go_wp2_with fail
        refine wp_abs (fun W => Below W2.heap.size W2 W ∧ W.heap[W2.heap.size]? = some (.cells #[.int .i64 sa.f0, .int .i64 sa.f1, .int .i64 (sa.f2 + n), .int .i64 sa.f3] 65 (0, 0))) ⟨b1 _ _, blk_new _ _⟩ ?_
        rintro W4 ⟨hb4, hx4⟩
        have BC4 := Aside0.mk (bt BC.out hb4)
        have HX4 := Aside0.mk hx4
        have hgn : W2.heap.size < W4.heap.size := blk_lt hx4
        clear hb4 hx4 a0 a1 a2 a3 hw
        have HOK : Aside0 (okSt (upS (cSt sa) n)) := ⟨HK.out.1.1, HK.out.1.2.1, by simp only [upS, cSt]; omega⟩
        have HFN := Aside0.mk (HF.out n)
        go_loopg [11, 12] ri.length (fun gg s11 s12 wr => ∃ i : Int, s12 = .int .i64 i ∧ s11 = .bool (allK (P n) i.toNat) ∧ 0 ≤ i ∧ i ≤ (ri.length : Int) ∧ (ri.length : Int) - i ≤ (gg : Int) ∧ Aside0 (Below W4.heap.size W4 wr))
        case atStart => exact ⟨0, rfl, rfl, by omega, by omega, by omega, ⟨Below.refl _ _⟩⟩
        case round =>
          obtain ⟨i, rfl, rfl, k0, k1, hgk, BI⟩ := hrel
          obtain ⟨W5, rfl⟩ : ∃ W5 : World, W5 = wr := ⟨_, rfl⟩
          have d1 := cb BI.out (cb BC4.out HD1.out)
          have HBI := Aside0.mk (bt HB.out (bt BC4.out BI.out))
          by_cases hkt : i < (ri.length : Int)
          · obtain ⟨az, e0, x0, x1, x2, x3, x4, x5⟩ := at_T55 (Kd.C_below H1.out HBI.out) i k0 hkt
            cases e0
            have HS := Aside0.mk (allK_succ (P n) i.toNat)
            have ei : ((i.toNat : Nat) : Int) = i := Int.toNat_of_nonneg k0
            rw [ei] at HS
            have HPI := Aside0.mk (HP.out n i)
            have HW := Aside0.mk (HO.out i k0 hkt)
            have HS1 : Aside0 ((i + 1).toNat = i.toNat + 1) := ⟨by omega⟩
            clear ei
            have A := blk_below HX4.out BI.out
            have B := blk_below (blk_below HBB.out BC4.out) BI.out
            have a0 := (blk_cell A 0).trans rfl
            have a1 := (blk_cell A 1).trans rfl
            have a2 := (blk_cell A 2).trans rfl
            have a3 := (blk_cell A 3).trans rfl
            have b0 := (blk_cell B 0).trans rfl
            have b1' := (blk_cell B 1).trans rfl
            have b2 := (blk_cell B 2).trans rfl
            have b3 := (blk_cell B 3).trans rfl
            clear A B
            have CB := Aside0.mk fun W => rblocks_c (rd_T55 ri i) ⟨sa.f0, sa.f1, sa.f2 + n, sa.f3⟩ sb HW.out HOK.out HK.out.2 W
            cases hfr : allK (P n) i.toNat
            · have HS2 : Aside0 (allK (P n) (i + 1).toNat = false) := ⟨by rw [HS1.out, HS.out, hfr]; rfl⟩
              clear hfr
              go_wp2_with fail
              replace d1 := fun d os => cell_regrown d1 d os
              replace x0 := fun d os => cell_regrown x0 d os
              replace x1 := fun d os => cell_regrown x1 d os
              replace x2 := fun d os => cell_regrown x2 d os
              replace x3 := fun d os => cell_regrown x3 d os
              replace x4 := fun d os => cell_regrown x4 d os
              replace x5 := fun d os => cell_regrown x5 d os
              replace a0 := fun d os => cell_regrown a0 d os
              replace a1 := fun d os => cell_regrown a1 d os
              replace a2 := fun d os => cell_regrown a2 d os
              replace a3 := fun d os => cell_regrown a3 d os
              replace b0 := fun d os => cell_regrown b0 d os
              replace b1' := fun d os => cell_regrown b1' d os
              replace b2 := fun d os => cell_regrown b2 d os
              replace b3 := fun d os => cell_regrown b3 d os
              refine wp_region_quiet_below (by kernel_rfl) (by kernel_rfl) ?_
              repeat (go_big_quiet_step (fail))
              refine wpQuiet_nil ?_
              intro _ hw'
              obtain ⟨⟨dq, osq⟩, hw''⟩ := hw'
              subst hw''
              have BI1 := Aside0.mk (bt BI.out (below_regrown W5 dq osq))
              clear d1 x0 x1 x2 x3 x4 x5 a0 a1 a2 a3 b0 b1' b2 b3 BI HBI
              generalize grow (redrawn W5 dq) osq = W6 at *
              go_wp2_with fail
              go_roundg (ri.length - (i + 1).toNat)
              case measure => omega
              case rel => exact ⟨i + 1, by first | rfl | go_num, by rw [HS2.out], by omega, by omega, by omega, BI1⟩
            · have HS2 : Aside0 (allK (P n) (i + 1).toNat = !blocksB (cWl (rd_T55 ri i)) (upS (cSt sa) n) (cSt sb)) := ⟨by rw [HS1.out, HS.out, hfr, HPI.out]; rfl⟩
              clear hfr
              go_wp2_with fail
              replace d1 := fun d os => cell_regrown d1 d os
              replace x0 := fun d os => cell_regrown x0 d os
              replace x1 := fun d os => cell_regrown x1 d os
              replace x2 := fun d os => cell_regrown x2 d os
              replace x3 := fun d os => cell_regrown x3 d os
              replace x4 := fun d os => cell_regrown x4 d os
              replace x5 := fun d os => cell_regrown x5 d os
              replace a0 := fun d os => cell_regrown a0 d os
              replace a1 := fun d os => cell_regrown a1 d os
              replace a2 := fun d os => cell_regrown a2 d os
              replace a3 := fun d os => cell_regrown a3 d os
              replace b0 := fun d os => cell_regrown b0 d os
              replace b1' := fun d os => cell_regrown b1' d os
              replace b2 := fun d os => cell_regrown b2 d os
              replace b3 := fun d os => cell_regrown b3 d os
              refine wp_region_quiet_below (by kernel_rfl) (by kernel_rfl) ?_
              repeat (go_big_quiet_step (exact Calls.regrown_of (CB.out _)))
              refine wpQuiet_nil ?_
              intro _ hw'
              obtain ⟨⟨dq, osq⟩, hw''⟩ := hw'
              subst hw''
              have BI1 := Aside0.mk (bt BI.out (below_regrown W5 dq osq))
              clear d1 x0 x1 x2 x3 x4 x5 a0 a1 a2 a3 b0 b1' b2 b3 BI HBI
              generalize grow (redrawn W5 dq) osq = W6 at *
              go_wp2_with fail
              go_roundg (ri.length - (i + 1).toNat)
              case measure => omega
              case rel => exact ⟨i + 1, by first | rfl | go_num, by rw [HS2.out]; rfl, by omega, by omega, by omega, BI1⟩
          · have e : i = (ri.length : Int) := by omega
            subst e
            rw [Int.toNat_natCast]
            rw [HFN.out] at HR
            have HBI1 := Aside0.mk (bt BC4.out BI.out)
            generalize allK (P n) ri.length = fr at *
            cases fr
            · replace HR := Aside0.mk (HR.out.trans (if_neg Bool.false_ne_true))
              go_wp2_with fail
              go_roundg (1001 - (n + 1)).toNat
              case measure => omega
              case rel => exact ⟨n + 1, by first | rfl | go_num, by omega, by omega, by omega, HBI1, HR⟩
            · replace HR := Aside0.mk (HR.out.trans (if_pos rfl))
              go_wp2_with fail
              go_ret
              exact ⟨ret_i64 HR.out.symm, bt HB.out HBI1.out⟩
      · have hd : (1001 - sa.f2 - n).toNat = 0 := by omega
        replace HR : Aside0 (res = -1) := ⟨by rw [HR.out, hd]; rfl⟩
        clear hd
        go_wp2_with fail
        go_ret
        exact ⟨ret_i64 HR.out.symm, bt HB.out BC.out⟩
/-- The reference's rise. -/
def linR (L : Lv) (f t : Int) : Int := lin (freeB L (rd_T85 L.st f) (rd_T85 L.st t)) (1001 - (rd_T85 L.st f).f2).toNat 0
theorem rrise_c (R : Rv) (f t k h : Int) (w : World) (hI : R.In w) (hL : R.lv.Ok) (hA : R.lv.At f t k h) :
    Calls Try.prog 29 #[.agg R.cells, .int .i64 f, .int .i64 t] w fun e w' => e = .returned (.int .i64 (linR R.lv f t)) ∧ Below w.heap.size w w' := by
  have hf1 := hA.f1
  have ht1 := hA.t1
  have o1 := hL.st f hA.f0 hA.f1
  have o2 := hL.st t hA.t0 hA.t1
  rw [lv_st] at o1 o2
  rw [lv_len0] at hf1 ht1
  have q6 := hL.ri6
  rw [lv_len1] at q6
  unfold linR
  rw [lv_st, lv_st]
  refine rise_w _ _ R.st R.ri R.A0 R.A1 R.A2 R.A3 R.ca.length R.su.length R.c0 R.c1 R.c2 R.c3 f t _ (fun n i => !blocksB (cWl (rd_T55 R.ri i)) (upS (cSt (rd_T65 R.st f)) n) (cSt (rd_T65 R.st t))) w hI.r0 hI.r1 hA.f0 hf1 hA.t0 ht1 rfl rfl o1 o2 (by omega) (fun i h0 h1 => ?_) (fun _ _ => rfl) (fun n => ?_)
  · rw [← lv_ri]
    have := hL.ri i.toNat (by rw [lv_len1]; omega)
    rwa [Int.toNat_of_nonneg h0] at this
  · unfold freeB
    rw [all_allK _ _ z86, lv_len1]
    simp only [← lv_ri]
    rfl
end Go.Proofs.Ytkbdphjnpieceaa.G
