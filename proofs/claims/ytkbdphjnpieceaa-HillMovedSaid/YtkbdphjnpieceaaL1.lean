/- The law's ints, Thin, within, ready, pair. -/
import Derived.Test.YtkbdphjnpieceaaR6
namespace Go.Proofs.Ytkbdphjnpieceaa.G
open Go.RowKit Go.Proofs.YtkbdphjnpieceaaW.PrintWords Go.Proofs.YtkbdphjnpieceaaW.PrintLast Go.Proofs.YtkbdphjnpieceaaW.PrintMore
open Go.Sort (grow)
set_option linter.unusedVariables false
set_option linter.unusedSimpArgs false

/-- The first number from n on that passes, of d numbers; -1 if none. -/
def lin (p : Int → Bool) : Nat → Int → Int
  | 0, _ => -1
  | d + 1, n => if p n = true then n else lin p d (n + 1)
def allK (p : Int → Bool) (k : Nat) : Bool := (List.range k).all fun j => p j
theorem allK_succ (p : Int → Bool) (k : Nat) : allK p (k + 1) = (allK p k && p k) := by
  unfold allK
  rw [List.range_succ, List.all_append]
  simp
/-- The reference's rise. -/
def linR (L : Lv) (f t : Int) : Int := lin (freeB L (rd_T85 L.st f) (rd_T85 L.st t)) (1001 - (rd_T85 L.st f).f2).toNat 0
end Go.Proofs.Ytkbdphjnpieceaa.G
namespace Go.Proofs.Ytkbdphjnpieceaa.G
open Go.RowKit Go.Proofs.YtkbdphjnpieceaaW.PrintWords Go.Proofs.YtkbdphjnpieceaaW.PrintLast Go.Proofs.YtkbdphjnpieceaaW.PrintMore
open Go.Sort (grow)
set_option linter.unusedVariables false
set_option linter.unusedSimpArgs false

theorem rd_get {xs : List Int} {j : Nat} (h : j < xs.length) : rd xs j = xs[j] := by
  unfold rd
  rw [Int.toNat_natCast, List.getD_eq_getElem?_getD, List.getElem?_eq_getElem h]
  rfl
theorem list_eq {xs ys : List Int} (hl : xs.length = ys.length) (h : ∀ j : Nat, (j : Int) < xs.length → rd xs j = rd ys j) : (xs == ys) = true := by
  have : xs = ys := List.ext_getElem hl fun j h1 h2 => by
    have := h j (by omega)
    rwa [rd_get h1, rd_get h2] at this
  simpa using this
theorem list_ne {xs ys : List Int} {i : Int} (h : (rd xs i == rd ys i) = false) : (xs == ys) = false := by
  cases hq : xs == ys
  · rfl
  · have : xs = ys := by simpa using hq
    rw [this] at h
    simp at h
set_option maxHeartbeats 2000000 in
theorem ints_c (A B : Option Addr) (ca cb : Nat) (xs ys : List Int) (w : World) (ha : Kd.C (Kd.int .i64) w A xs.length xs) (hb : Kd.C (Kd.int .i64) w B ys.length ys) :
    Calls Try.prog 25 #[.slice A xs.length ca, .slice B ys.length cb] w fun e w' => e = .returned (.bool (xs == ys)) ∧ Below w.heap.size w w' := by
  have la := ha.2.1
  have lb := hb.2.1
  have HA := Aside0.mk ha
  have HB := Aside0.mk hb
  clear ha hb
  obtain ⟨v, hv⟩ : ∃ v, v = (xs == ys) := ⟨_, rfl⟩
  have HV := Aside0.mk hv
  rw [← hv]
  clear hv
  by_cases hl : (xs.length : Int) = ys.length
  · have HL : Aside0 (xs.length = ys.length) := ⟨by omega⟩
    have t1 : ((xs.length : Int) != ys.length) = false := by simpa using hl
    go_enter Try.func25, Try.ntmps25
    clear hl
    go_wp2_with fail
    go_loopg [5] xs.length (fun gg s5 wr => ∃ i : Int, s5 = .int .i64 i ∧ 0 ≤ i ∧ i ≤ (xs.length : Int) ∧ (xs.length : Int) - i ≤ (gg : Int) ∧ Aside0 (Below w.heap.size w wr) ∧ Aside0 (∀ j : Nat, (j : Int) < i → rd xs j = rd ys j))
    case atStart => exact ⟨0, rfl, by omega, by omega, by omega, ⟨Below.refl _ _⟩, ⟨fun j h => by omega⟩⟩
    case round =>
      obtain ⟨i, rfl, h0, h1, hg, BW, BA⟩ := hrel
      obtain ⟨W2, rfl⟩ : ∃ W2 : World, W2 = wr := ⟨_, rfl⟩
      by_cases hlt : i < (xs.length : Int)
      · have hlt2 : i < (ys.length : Int) := by have := HL.out; omega
        obtain ⟨aa, ea, xa⟩ := Kd.at_int (Kd.C_below HA.out BW.out) i h0 hlt
        obtain ⟨ab, eb, xb⟩ := Kd.at_int (Kd.C_below HB.out BW.out) i h0 hlt2
        subst ea
        subst eb
        go_wp2_with fail
        replace xa := fun d os => cell_regrown xa d os
        replace xb := fun d os => cell_regrown xb d os
        refine wp_region_quiet_below (by kernel_rfl) (by kernel_rfl) ?_
        repeat (go_big_quiet_step (fail))
        refine wpQuiet_nil ?_
        intro _ hw'
        obtain ⟨⟨dq, osq⟩, hw''⟩ := hw'
        subst hw''
        have BW2 := Aside0.mk (bt BW.out (below_regrown W2 dq osq))
        clear xa xb BW
        generalize grow (redrawn W2 dq) osq = W3 at *
        cases t2 : (rd xs i == rd ys i)
        · have t3 : (rd xs i != rd ys i) = true := by simpa using t2
          have HV2 : Aside0 (v = false) := ⟨HV.out.trans (list_ne t2)⟩
          clear t2
          go_wp2_with fail
          go_ret
          exact ⟨ret_bool HV2.out.symm, BW2.out⟩
        · have t3 : (rd xs i != rd ys i) = false := by simpa using t2
          have HE : Aside0 (rd xs i = rd ys i) := ⟨by simpa using t2⟩
          clear t2
          go_wp2_with fail
          go_roundg (xs.length - (i + 1).toNat)
          case measure => omega
          case rel =>
            refine ⟨i + 1, by first | rfl | go_num, by omega, by omega, by omega, BW2, ⟨fun j hj => ?_⟩⟩
            by_cases e : (j : Int) = i
            · rw [e]; exact HE.out
            · exact BA.out j (by omega)
      · have e : i = (xs.length : Int) := by omega
        subst e
        have HV2 : Aside0 (v = true) := ⟨HV.out.trans (list_eq HL.out BA.out)⟩
        go_wp2_with fail
        go_ret
        exact ⟨ret_bool HV2.out.symm, BW.out⟩
  · have t1 : ((xs.length : Int) != ys.length) = true := by simpa using hl
    have HV2 : Aside0 (v = false) := ⟨by rw [HV.out]; cases hq : xs == ys; rfl; exact absurd (by rw [show xs = ys by simpa using hq]) hl⟩
    go_enter Try.func25, Try.ntmps25
    clear hl
    go_wp2_with fail
    go_ret
    exact ⟨ret_bool HV2.out.symm, Below.refl _ _⟩

/-- At most nine stations, ridges and cases, fifteen hours, seven clouds in a case. -/
def Rv.thin (R : Rv) : Bool := allK (fun i => decide ((rd_L3 R.ca i).length ≤ 7)) (min R.ca.length 10) && decide (R.st.length ≤ 9) && decide (R.ri.length ≤ 9) && decide (R.ca.length ≤ 9) && decide (R.su.length ≤ 15)
theorem allK_no {p : Int → Bool} {i : Int} {n : Nat} (h0 : 0 ≤ i) (h1 : i < n) (h : p i = false) : allK p n = false := by
  unfold allK
  rw [List.all_eq_false]
  refine ⟨i.toNat, by rw [List.mem_range]; omega, ?_⟩
  rw [Int.toNat_of_nonneg h0, h]
  decide
set_option maxHeartbeats 2000000 in
theorem thin_w (st : List S65) (ri : List S55) (ca : List (List S61)) (su : List S50) (A0 A1 A2 A3 : Option Addr) (c0 c1 c2 c3 : Nat) (v : Bool) (w : World) (l0 : st.length ≤ 9223372036854775807) (l1 : ri.length ≤ 9223372036854775807) (l3 : su.length ≤ 9223372036854775807) (hr2 : Kd.C (Kd.slice 61 k61) w A2 ca.length ca)
    (hv : v = (allK (fun i => decide ((rd_L3 ca i).length ≤ 7)) (min ca.length 10) && decide (st.length ≤ 9) && decide (ri.length ≤ 9) && decide (ca.length ≤ 9) && decide (su.length ≤ 15))) :
    Calls Try.prog 17 #[.agg #[.slice A0 st.length c0, .slice A1 ri.length c1, .slice A2 ca.length c2, .slice A3 su.length c3]] w fun e w' => e = .returned (.bool v) ∧ Below w.heap.size w w' := by
  have l2 := hr2.2.1
  have H2 := Aside0.mk hr2
  have HV := Aside0.mk hv
  clear hr2 hv
  go_enter Try.func17, Try.ntmps17
  go_wp2_with fail
  refine wp_abs (fun W => Below w.heap.size w W ∧ W.cell? ⟨w.heap.size, 0, none⟩ = some (.slice A0 st.length c0) ∧ W.cell? ⟨w.heap.size, 1, none⟩ = some (.slice A1 ri.length c1) ∧ W.cell? ⟨w.heap.size, 2, none⟩ = some (.slice A2 ca.length c2) ∧ W.cell? ⟨w.heap.size, 3, none⟩ = some (.slice A3 su.length c3)) ⟨b1 _ _, cnew rfl rfl, cnew rfl rfl, cnew rfl rfl, cnew rfl rfl⟩ ?_
  rintro W0 ⟨hb, d0, d1, d2, d3⟩
  have HB := Aside0.mk hb
  have HD := Aside0.mk (And.intro d0 (And.intro d1 (And.intro d2 d3)))
  clear hb d0 d1 d2 d3
  go_loopg [3] (min ca.length 10) (fun gg s3 wr => ∃ i : Int, s3 = .int .i64 i ∧ 0 ≤ i ∧ i ≤ ((min ca.length 10 : Nat) : Int) ∧ ((min ca.length 10 : Nat) : Int) - i ≤ (gg : Int) ∧ Aside0 (Below W0.heap.size W0 wr) ∧ Aside0 (allK (fun i => decide ((rd_L3 ca i).length ≤ 7)) i.toNat = true))
  case atStart => exact ⟨0, rfl, by omega, by omega, by omega, ⟨Below.refl _ _⟩, ⟨rfl⟩⟩
  case round =>
    obtain ⟨i, rfl, h0, h1, hg, BW, BA⟩ := hrel
    obtain ⟨W2, rfl⟩ : ∃ W2 : World, W2 = wr := ⟨_, rfl⟩
    have d2 := cb BW.out HD.out.2.2.1
    have HBF := Aside0.mk (bt HB.out BW.out)
    by_cases hlt : i < ((min ca.length 10 : Nat) : Int)
    · have hlt1 : i < (ca.length : Int) := by omega
      have hlt2 : i < 10 := by omega
      obtain ⟨ad, A', c', e0, hcell, hl, hC⟩ := at_L3 (Kd.C_below H2.out HBF.out) i h0 hlt1
      cases e0
      have hln := hC.2.1
      clear hC
      have HS := Aside0.mk (allK_succ (fun i => decide ((rd_L3 ca i).length ≤ 7)) i.toNat)
      have ei : ((i.toNat : Nat) : Int) = i := Int.toNat_of_nonneg h0
      rw [ei] at HS
      have HS1 : Aside0 ((i + 1).toNat = i.toNat + 1) := ⟨by omega⟩
      clear ei
      by_cases h7 : 7 < ((rd_L3 ca i).length : Int)
      · have HN : Aside0 (v = false) := ⟨by rw [HV.out, allK_no h0 hlt (by simp; omega)]; rfl⟩
        go_wp2_with fail
        go_ret
        exact ⟨ret_bool HN.out.symm, HBF.out⟩
      · have H7 : Aside0 ((rd_L3 ca i).length ≤ 7) := ⟨by omega⟩
        go_wp2_with fail
        go_roundg (min ca.length 10 - (i + 1).toNat)
        case measure => omega
        case rel => exact ⟨i + 1, by first | rfl | go_num, by omega, by omega, by omega, BW, ⟨by rw [HS1.out, HS.out, BA.out]; simpa using H7.out⟩⟩
    · have e : i = ((min ca.length 10 : Nat) : Int) := by omega
      have HA : Aside0 (allK (fun i => decide ((rd_L3 ca i).length ≤ 7)) (min ca.length 10) = true) := ⟨by have := BA.out; rw [e, Int.toNat_natCast] at this; exact this⟩
      have d0 := cb BW.out HD.out.1
      have d1 := cb BW.out HD.out.2.1
      have d3 := cb BW.out HD.out.2.2.2
      replace HV : Aside0 (v = (decide (st.length ≤ 9) && decide (ri.length ≤ 9) && decide (ca.length ≤ 9) && decide (su.length ≤ 15))) := ⟨by rw [HV.out, HA.out, Bool.true_and]⟩
      clear HA BA HD HB BW
      have hcut : ¬ i < (ca.length : Int) ∨ (i < (ca.length : Int) ∧ ¬ i < 10) := by omega
      by_cases q0 : (st.length : Int) ≤ 9
      rotate_left
      · have HQ : Aside0 (¬ st.length ≤ 9) := ⟨by omega⟩
        have HN : Aside0 (v = false) := ⟨by rw [HV.out]; simp [HQ.out]⟩
        rcases hcut with hc | ⟨hc, hc2⟩
        · go_wp2_with fail
          go_ret
          exact ⟨ret_bool HN.out.symm, HBF.out⟩
        · first
            | (exfalso; omega)
            | (go_wp2_with fail; go_ret; exact ⟨ret_bool HN.out.symm, HBF.out⟩)
      by_cases q1 : (ri.length : Int) ≤ 9
      rotate_left
      · have HQ : Aside0 (¬ ri.length ≤ 9) := ⟨by omega⟩
        have HN : Aside0 (v = false) := ⟨by rw [HV.out]; simp [HQ.out]⟩
        rcases hcut with hc | ⟨hc, hc2⟩
        · go_wp2_with fail
          go_ret
          exact ⟨ret_bool HN.out.symm, HBF.out⟩
        · first
            | (exfalso; omega)
            | (go_wp2_with fail; go_ret; exact ⟨ret_bool HN.out.symm, HBF.out⟩)
      by_cases q2 : (ca.length : Int) ≤ 9
      rotate_left
      · have HQ : Aside0 (¬ ca.length ≤ 9) := ⟨by omega⟩
        have HN : Aside0 (v = false) := ⟨by rw [HV.out]; simp [HQ.out]⟩
        rcases hcut with hc | ⟨hc, hc2⟩
        · go_wp2_with fail
          go_ret
          exact ⟨ret_bool HN.out.symm, HBF.out⟩
        · first
            | (exfalso; omega)
            | (go_wp2_with fail; go_ret; exact ⟨ret_bool HN.out.symm, HBF.out⟩)
      by_cases q3 : (su.length : Int) ≤ 15
      rotate_left
      · have HQ : Aside0 (¬ su.length ≤ 15) := ⟨by omega⟩
        have HN : Aside0 (v = false) := ⟨by rw [HV.out]; simp [HQ.out]⟩
        rcases hcut with hc | ⟨hc, hc2⟩
        · go_wp2_with fail
          go_ret
          exact ⟨ret_bool HN.out.symm, HBF.out⟩
        · first
            | (exfalso; omega)
            | (go_wp2_with fail; go_ret; exact ⟨ret_bool HN.out.symm, HBF.out⟩)
      have HQ : Aside0 (st.length ≤ 9 ∧ ri.length ≤ 9 ∧ ca.length ≤ 9 ∧ su.length ≤ 15) := ⟨by omega⟩
      have HN : Aside0 (v = true) := ⟨by rw [HV.out]; simp [HQ.out]⟩
      rcases hcut with hc | ⟨hc, hc2⟩
      · go_wp2_with fail
        go_ret
        exact ⟨ret_bool HN.out.symm, HBF.out⟩
      · first
          | (exfalso; omega)
          | (go_wp2_with fail; go_ret; exact ⟨ret_bool HN.out.symm, HBF.out⟩)
theorem thin_c (R : Rv) (w : World) (hI : R.In w) : Calls Try.prog 17 #[.agg R.cells] w fun e w' => e = .returned (.bool R.thin) ∧ Below w.heap.size w w' :=
  thin_w R.st R.ri R.ca R.su R.A0 R.A1 R.A2 R.A3 R.c0 R.c1 R.c2 R.c3 _ w hI.r0.2.1 hI.r1.2.1 hI.r3.2.1 hI.r2 rfl
/-- Valid, and two stations at least. -/
def Rv.rdy (R : Rv) : Bool := R.thin && R.lv.check == 0 && decide (1 < (R.st.length : Int))
set_option maxHeartbeats 2000000 in
theorem ready_c (R : Rv) (w : World) (hI : R.In w) : Calls Try.prog 30 #[.agg R.cells] w fun e w' => e = .returned (.bool R.rdy) ∧ Below w.heap.size w w' := by
  have CT := Aside0.mk fun W hb => thin_c R W (hI.below hb)
  have CF := Aside0.mk fun W hb => lfault_c R W (hI.below hb)
  have HV : Aside0 (R.rdy = (R.thin && R.lv.check == 0 && decide (1 < (R.st.length : Int)))) := ⟨rfl⟩
  have l0 := hI.r0.2.1
  clear hI
  simp only [Rv.cells] at *
  generalize R.thin = a at *
  generalize R.lv.check = c at *
  generalize R.rdy = v at *
  go_enter Try.func30, Try.ntmps30
  go_wp2_with fail
  refine (CT.out _ (b1 _ _)).mono ?_
  rintro e w1 ⟨rfl, hb1⟩
  have hbk := blk_below (blk_new w (.cells #[.slice R.A0 R.st.length R.c0, .slice R.A1 R.ri.length R.c1, .slice R.A2 R.ca.length R.c2, .slice R.A3 R.su.length R.c3] 27)) hb1
  have HB1 := Aside0.mk (bt (b1 w (.cells #[.slice R.A0 R.st.length R.c0, .slice R.A1 R.ri.length R.c1, .slice R.A2 R.ca.length R.c2, .slice R.A3 R.su.length R.c3] 27)) hb1)
  clear hb1
  cases a
  · go_wp2_with fail
    go_ret
    exact ⟨ret_bool (by rw [HV.out]; rfl), HB1.out⟩
  have d0 := (blk_cell hbk 0).trans rfl
  have d1 := (blk_cell hbk 1).trans rfl
  have d2 := (blk_cell hbk 2).trans rfl
  have d3 := (blk_cell hbk 3).trans rfl
  have HBK := Aside0.mk hbk
  clear hbk
  go_wp2_with fail
  refine (CF.out _ HB1.out).mono ?_
  rintro e w2 ⟨rfl, hb2⟩
  have d0' := cb hb2 d0
  have HB2 := Aside0.mk (bt HB1.out hb2)
  clear hb2 d0 d1 d2 d3
  cases t1 : (c == 0)
  · rw [t1] at HV
    go_wp2_with fail
    go_ret
    exact ⟨ret_bool (by rw [HV.out]; rfl), HB2.out⟩
  · rw [t1] at HV
    go_wp2_with fail
    go_ret
    exact ⟨ret_bool (by rw [HV.out]; rfl), HB2.out⟩
end Go.Proofs.Ytkbdphjnpieceaa.G
