/- The reference's Fault. -/
import Derived.Test.YtkbdphjnpieceaaR1
namespace Go.Proofs.Ytkbdphjnpieceaa.G
open Go.RowKit Go.Proofs.YtkbdphjnpieceaaW.PrintWords Go.Proofs.YtkbdphjnpieceaaW.PrintLast Go.Proofs.YtkbdphjnpieceaaW.PrintMore
open Go.Sort (grow)
set_option linter.unusedVariables false
set_option linter.unusedSimpArgs false

/-- The land as the program has it, wherever its lists lie. -/
def Rv.at (R : Rv) (A0 A1 A2 A3 : Option Addr) (c0 c1 c2 c3 : Nat) : Lv := ⟨R.st.map cSt, R.ri.map cWl, R.ca.map (·.map cCl), R.su.map cSu, A0, A1, A2, A3, c0, c1, c2, c3⟩
def Rv.lv (R : Rv) : Lv := R.at none none none none 0 0 0 0
theorem check_big {st : List S85} {ri : List S86} {ca : List (List S88)} {su : List S99} (h : 6 < (st.length : Int) ∨ 6 < (ri.length : Int) ∨ 4 < (ca.length : Int) ∨ 12 < (su.length : Int) ∨ ca.all fewB = false) : checkF st ri ca su = 3 := by
  unfold checkF
  by_cases h0 : 6 < (st.length : Int)
  · rw [if_pos h0]
  rw [if_neg h0]
  by_cases h1 : 6 < (ri.length : Int)
  · rw [if_pos h1]
  rw [if_neg h1]
  by_cases h2 : 4 < (ca.length : Int)
  · rw [if_pos h2]
  rw [if_neg h2]
  by_cases h3 : 12 < (su.length : Int)
  · rw [if_pos h3]
  rw [if_neg h3, if_pos]
  rcases h with h | h | h | h | h
  · exact absurd h h0
  · exact absurd h h1
  · exact absurd h h2
  · exact absurd h h3
  · exact h
/-- Nothing is too great. -/
def smallL (st : List S85) (ri : List S86) (ca : List (List S88)) (su : List S99) : Prop := ¬ 6 < (st.length : Int) ∧ ¬ 6 < (ri.length : Int) ∧ ¬ 4 < (ca.length : Int) ∧ ¬ 12 < (su.length : Int) ∧ ca.all fewB = true
def goodL (st : List S85) (ri : List S86) (ca : List (List S88)) (su : List S99) : Bool := !(st.length == 0) && !(ca.length == 0) && !(su.length == 0) && st.all stOK && apartB st && ri.all ridgeOK && (ca.all fun k => k.all (cloudOK su.length)) && su.all sunOK
theorem check_good {st : List S85} {ri : List S86} {ca : List (List S88)} {su : List S99} (hs : smallL st ri ca su) : checkF st ri ca su = if goodL st ri ca su = true then 0 else 1 := by
  obtain ⟨h0, h1, h2, h3, h4⟩ := hs
  unfold checkF goodL
  rw [if_neg h0, if_neg h1, if_neg h2, if_neg h3, if_neg (by rw [h4]; decide)]
  have z : ∀ n : Nat, ((n : Int) = 0) = (n = 0) := fun n => by apply propext; omega
  simp only [z]
  by_cases e0 : st.length = 0
  · simp [e0]
  by_cases e1 : ca.length = 0
  · simp [e0, e1]
  by_cases e2 : su.length = 0
  · simp [e0, e1, e2]
  simp only [e0, e1, e2, if_false]
  cases st.all stOK
  · simp
  cases apartB st
  · simp
  cases ri.all ridgeOK
  · simp
  cases ca.all fun k => k.all (cloudOK su.length)
  · simp
  cases su.all sunOK
  · simp
  simp [e0, e1, e2]

theorem all_bad {α : Type} {β : Type} {f : α → β} {p : β → Bool} {xs : List α} {z : α} {i : Int} (h0 : 0 ≤ i) (h1 : i < xs.length) (h : p (f (xs.getD i.toNat z)) = false) : (xs.map f).all p = false := by
  rw [List.all_eq_false]
  exact ⟨_, List.mem_map_of_mem (rd_mem xs z i h0 h1), by rw [h]; decide⟩
theorem all_fine {α : Type} {β : Type} {f : α → β} {p : β → Bool} {xs : List α} {z : α} (h : ∀ j : Nat, j < xs.length → p (f (xs.getD j z)) = true) : (xs.map f).all p = true := by
  rw [List.all_eq_true]
  intro y hy
  obtain ⟨x, hx, rfl⟩ := List.mem_map.1 hy
  obtain ⟨j, hj, rfl⟩ := List.getElem_of_mem hx
  have := h j hj
  rwa [List.getD_eq_getElem?_getD, List.getElem?_eq_getElem hj] at this
theorem goodL_bad {st : List S85} {ri : List S86} {ca : List (List S88)} {su : List S99} (h : st.length = 0 ∨ ca.length = 0 ∨ su.length = 0 ∨ st.all stOK = false ∨ apartB st = false ∨ ri.all ridgeOK = false ∨ (ca.all fun k => k.all (cloudOK su.length)) = false ∨ su.all sunOK = false) : goodL st ri ca su = false := by
  unfold goodL
  rcases h with h | h | h | h | h | h | h | h <;> simp [h]
theorem rd_map {st : List S65} {i : Int} (h0 : 0 ≤ i) (h1 : i < st.length) : rd_T85 (st.map cSt) i = cSt (rd_T65 st i) := by
  unfold rd_T85 rd_T65
  have : i.toNat < st.length := by omega
  simp [List.getD_eq_getElem?_getD, this]
theorem two_bools (a b : Bool) : a = false ∨ (a = true ∧ b = false) ∨ (a = true ∧ b = true) := by cases a <;> cases b <;> simp
/-- What Fault answers: a number of its own, for the walk. -/
structure FRes (st : List S65) (ri : List S55) (ca : List (List S61)) (su : List S50) (v : Int) : Prop where
  out : v = checkF (st.map cSt) (ri.map cWl) (ca.map (·.map cCl)) (su.map cSu)
structure FSmall (st : List S65) (ri : List S55) (ca : List (List S61)) (su : List S50) : Prop where
  out : smallL (st.map cSt) (ri.map cWl) (ca.map (·.map cCl)) (su.map cSu)

set_option maxHeartbeats 8000000 in
set_option maxRecDepth 100000 in
theorem fault_w (st : List S65) (ri : List S55) (ca : List (List S61)) (su : List S50) (A0 A1 A2 A3 : Option Addr) (c0 c1 c2 c3 : Nat) (v : Int) (HC : FRes st ri ca su v) (w : World) (hr0 : Kd.C k65 w A0 st.length st) (hr1 : Kd.C k55 w A1 ri.length ri) (hr2 : Kd.C (Kd.slice 61 k61) w A2 ca.length ca) (hr3 : Kd.C k50 w A3 su.length su) :
    Calls Try.prog 51 #[.agg #[.slice A0 st.length c0, .slice A1 ri.length c1, .slice A2 ca.length c2, .slice A3 su.length c3]] w fun e w' => e = .returned (.int .i64 v) ∧ Below w.heap.size w w' := by
  have l0 := hr0.2.1
  have l1 := hr1.2.1
  have l2 := hr2.2.1
  have l3 := hr3.2.1
  have hb1 := b1 w (.cells #[.slice A0 st.length c0, .slice A1 ri.length c1, .slice A2 ca.length c2, .slice A3 su.length c3] 27)
  have HI := Aside0.mk (And.intro (Kd.C_below hr0 hb1) (And.intro (Kd.C_below hr1 hb1) (And.intro (Kd.C_below hr2 hb1) (Kd.C_below hr3 hb1))))
  have HB := Aside0.mk hb1
  clear hr0 hr1 hr2 hr3 hb1
  by_cases q0 : 6 < (st.length : Int)
  · have HQ : Aside0 (6 < ((st.map cSt).length : Int)) := ⟨by simpa using q0⟩
    have HE : Aside0 (v = 3) := ⟨HC.out.trans (check_big (.inl HQ.out))⟩
    go_enter Try.func51, Try.ntmps51
    go_wp2_with fail
    go_ret
    exact ⟨ret_i64 HE.out.symm, HB.out⟩
  by_cases q1 : 6 < (ri.length : Int)
  · have HQ : Aside0 (6 < ((ri.map cWl).length : Int)) := ⟨by simpa using q1⟩
    have HE : Aside0 (v = 3) := ⟨HC.out.trans (check_big (.inr (.inl HQ.out)))⟩
    go_enter Try.func51, Try.ntmps51
    go_wp2_with fail
    go_ret
    exact ⟨ret_i64 HE.out.symm, HB.out⟩
  by_cases q2 : 4 < (ca.length : Int)
  · have HQ : Aside0 (4 < ((ca.map (·.map cCl)).length : Int)) := ⟨by simpa using q2⟩
    have HE : Aside0 (v = 3) := ⟨HC.out.trans (check_big (.inr (.inr (.inl HQ.out))))⟩
    go_enter Try.func51, Try.ntmps51
    go_wp2_with fail
    go_ret
    exact ⟨ret_i64 HE.out.symm, HB.out⟩
  by_cases q3 : 12 < (su.length : Int)
  · have HQ : Aside0 (12 < ((su.map cSu).length : Int)) := ⟨by simpa using q3⟩
    have HE : Aside0 (v = 3) := ⟨HC.out.trans (check_big (.inr (.inr (.inr (.inl HQ.out)))))⟩
    go_enter Try.func51, Try.ntmps51
    go_wp2_with fail
    go_ret
    exact ⟨ret_i64 HE.out.symm, HB.out⟩
  go_enter Try.func51, Try.ntmps51
  go_wp2_with fail
  refine wp_abs (fun W => Below w.heap.size w W ∧ (Kd.C k65 W A0 st.length st ∧ Kd.C k55 W A1 ri.length ri ∧ Kd.C (Kd.slice 61 k61) W A2 ca.length ca ∧ Kd.C k50 W A3 su.length su) ∧ W.cell? ⟨w.heap.size, 0, none⟩ = some (.slice A0 st.length c0) ∧ W.cell? ⟨w.heap.size, 1, none⟩ = some (.slice A1 ri.length c1) ∧ W.cell? ⟨w.heap.size, 2, none⟩ = some (.slice A2 ca.length c2) ∧ W.cell? ⟨w.heap.size, 3, none⟩ = some (.slice A3 su.length c3)) ⟨HB.out, HI.out, cnew rfl rfl, cnew rfl rfl, cnew rfl rfl, cnew rfl rfl⟩ ?_
  clear HB HI
  rintro W0 ⟨hb, hI, d0, d1, d2, d3⟩
  have HB := Aside0.mk hb
  have HI := Aside0.mk hI
  have HD := Aside0.mk (And.intro d0 (And.intro d1 (And.intro d2 d3)))
  clear hb hI d0 d1 d2 d3
  go_loopg [3] ca.length (fun gg s3 wr => ∃ i : Int, s3 = .int .i64 i ∧ 0 ≤ i ∧ i ≤ (ca.length : Int) ∧ (ca.length : Int) - i ≤ (gg : Int) ∧ Aside0 (Below W0.heap.size W0 wr) ∧ Aside0 (∀ j : Nat, (j : Int) < i → fewB ((ca.getD j []).map cCl) = true))
  case atStart => exact ⟨0, rfl, by omega, by omega, by omega, ⟨Below.refl _ _⟩, ⟨fun j h => by omega⟩⟩
  case round =>
    obtain ⟨i, rfl, h0, h1, hg, BW, BA⟩ := hrel
    have d2 := cb BW.out HD.out.2.2.1
    by_cases hlt : i < (ca.length : Int)
    · obtain ⟨ad, A', c', e0, hcell, hl, hC⟩ := at_L3 (Kd.C_below HI.out.2.2.1 BW.out) i h0 hlt
      cases e0
      have hln := hC.2.1
      have HF : Aside0 (fewB ((ca.getD i.toNat []).map cCl) = decide (((rd_L3 ca i).length : Int) ≤ 4)) := ⟨by simp [fewB, rd_L3]⟩
      clear hC
      by_cases h4 : 4 < ((rd_L3 ca i).length : Int)
      · have HE : Aside0 (v = 3) := ⟨HC.out.trans (check_big (.inr (.inr (.inr (.inr (all_bad h0 hlt (by rw [HF.out]; simpa using h4)))))))⟩
        go_wp2_with fail
        go_ret
        exact ⟨ret_i64 HE.out.symm, bt HB.out BW.out⟩
      · have H4 : Aside0 (fewB ((ca.getD i.toNat []).map cCl) = true) := ⟨by rw [HF.out]; simpa using h4⟩
        go_wp2_with fail
        go_roundg (ca.length - (i + 1).toNat)
        case measure => omega
        case rel =>
          refine ⟨i + 1, by first | rfl | go_num, by omega, by omega, by omega, BW, ⟨fun j hj => ?_⟩⟩
          by_cases e : (j : Int) = i
          · have := H4.out
            rw [← e] at this
            exact this
          · exact BA.out j (by omega)
    · have e : i = (ca.length : Int) := by omega
      subst e
      have HF : FSmall st ri ca su := ⟨by simpa using q0, by simpa using q1, by simpa using q2, by simpa using q3, all_fine fun j hj => BA.out j (by omega)⟩
      have HC2 : Aside0 (v = if goodL (st.map cSt) (ri.map cWl) (ca.map (·.map cCl)) (su.map cSu) = true then 0 else 1) := ⟨HC.out.trans (check_good HF.out)⟩
      replace HI : Aside0 (Kd.C k65 wr A0 st.length st ∧ Kd.C k55 wr A1 ri.length ri ∧ Kd.C (Kd.slice 61 k61) wr A2 ca.length ca ∧ Kd.C k50 wr A3 su.length su) := ⟨Kd.C_below HI.out.1 BW.out, Kd.C_below HI.out.2.1 BW.out, Kd.C_below HI.out.2.2.1 BW.out, Kd.C_below HI.out.2.2.2 BW.out⟩
      replace HB := Aside0.mk (bt HB.out BW.out)
      have d0 := cb BW.out HD.out.1
      have d1 := cb BW.out HD.out.2.1
      have d3 := cb BW.out HD.out.2.2.2
      replace HD := Aside0.mk (And.intro d0 (And.intro d1 (And.intro d2 d3)))
      clear HC BW BA
      go_upto_region 8 with (fail)
      cases z0 : ((st.length : Int) == 0)
      rotate_left
      · have HZ : Aside0 (st.length = 0) := ⟨by simpa using z0⟩
        have HE : Aside0 (v = 1) := ⟨by rw [HC2.out, if_neg]; rw [goodL_bad (.inl (by simpa using HZ.out))]; decide⟩
        go_wp2_with fail
        go_ret
        exact ⟨ret_i64 HE.out.symm, HB.out⟩
      cases z1 : ((ca.length : Int) == 0)
      rotate_left
      · have HZ : Aside0 (ca.length = 0) := ⟨by simpa using z1⟩
        have HE : Aside0 (v = 1) := ⟨by rw [HC2.out, if_neg]; rw [goodL_bad (.inr (.inl (by simpa using HZ.out)))]; decide⟩
        go_wp2_with fail
        go_ret
        exact ⟨ret_i64 HE.out.symm, HB.out⟩
      cases z2 : ((su.length : Int) == 0)
      rotate_left
      · have HZ : Aside0 (su.length = 0) := ⟨by simpa using z2⟩
        have HE : Aside0 (v = 1) := ⟨by rw [HC2.out, if_neg]; rw [goodL_bad (.inr (.inr (.inl (by simpa using HZ.out))))]; decide⟩
        go_wp2_with fail
        go_ret
        exact ⟨ret_i64 HE.out.symm, HB.out⟩
      have HZ : Aside0 (((st.map cSt).length == 0) = false ∧ ((ca.map (·.map cCl)).length == 0) = false ∧ ((su.map cSu).length == 0) = false) := ⟨by simpa using z0, by simpa using z1, by simpa using z2⟩
      go_wp2_with fail
      clear z0 z1 z2
      obtain ⟨W1, rfl⟩ : ∃ W1 : World, W1 = wr := ⟨_, rfl⟩
      go_loopg [4] st.length (fun gg s4 wr => ∃ i : Int, s4 = .int .i64 i ∧ 0 ≤ i ∧ i ≤ (st.length : Int) ∧ (st.length : Int) - i ≤ (gg : Int) ∧ Aside0 (Below W1.heap.size W1 wr) ∧ Aside0 (∀ j : Nat, (j : Int) < i → stOK (cSt (st.getD j z65)) = true) ∧ Aside0 (∀ a b : Int, 0 ≤ b → b < a → a < i → samePl (rd_T85 (st.map cSt) b) (rd_T85 (st.map cSt) a) = false))
      case atStart => exact ⟨0, rfl, by omega, by omega, by omega, ⟨Below.refl _ _⟩, ⟨fun j h => by omega⟩, ⟨fun a b _ _ h => by omega⟩⟩
      case round =>
        clear d0 d1 d2 d3
        obtain ⟨i, rfl, h0, h1, hg, BW, BA, BP⟩ := hrel
        obtain ⟨W2, rfl⟩ : ∃ W2 : World, W2 = wr := ⟨_, rfl⟩
        have d0 := cb BW.out HD.out.1
        by_cases hlt : i < (st.length : Int)
        · obtain ⟨ad, e0, x0, x1, x2, x3⟩ := at_T65 (Kd.C_below HI.out.1 BW.out) i h0 hlt
          cases e0
          have HO : Aside0 (stOK (cSt (st.getD i.toNat z65)) = (inB (rd_T65 st i).f0 0 100 && inB (rd_T65 st i).f1 0 100 && inB (rd_T65 st i).f2 0 1000 && inB (rd_T65 st i).f3 1 2)) := ⟨rfl⟩
          have HS : Aside0 (cSt (st.getD i.toNat z65) = cSt (rd_T65 st i)) := ⟨rfl⟩
          have HW2 := Aside0.mk (b1 W2 (.cells #[.int .i64 (rd_T65 st i).f0, .int .i64 (rd_T65 st i).f1, .int .i64 (rd_T65 st i).f2, .int .i64 (rd_T65 st i).f3] 65))
          have HN : Aside0 (∀ {b : Prop}, stOK (cSt (st.getD i.toNat z65)) = false → v = 1) := ⟨fun h => by rw [HC2.out, if_neg]; rw [goodL_bad (.inr (.inr (.inr (.inl (all_bad h0 hlt h)))))]; decide⟩
          go_wp2_with fail
          refine (in_c _ _ _ _).mono ?_
          rintro e w1 ⟨rfl, rfl⟩
          generalize inB (rd_T65 st i).f0 0 100 = r0 at *
          cases r0
          · go_wp2_with fail
            go_ret
            exact ⟨ret_i64 (HN.out (b := True) (by rw [HO.out]; rfl)).symm, bt (bt HB.out BW.out) HW2.out⟩
          go_wp2_with fail
          refine (in_c _ _ _ _).mono ?_
          rintro e w1 ⟨rfl, rfl⟩
          generalize inB (rd_T65 st i).f1 0 100 = r1 at *
          cases r1
          · go_wp2_with fail
            go_ret
            exact ⟨ret_i64 (HN.out (b := True) (by rw [HO.out]; rfl)).symm, bt (bt HB.out BW.out) HW2.out⟩
          go_wp2_with fail
          refine (in_c _ _ _ _).mono ?_
          rintro e w1 ⟨rfl, rfl⟩
          generalize inB (rd_T65 st i).f2 0 1000 = r2 at *
          cases r2
          · go_wp2_with fail
            go_ret
            exact ⟨ret_i64 (HN.out (b := True) (by rw [HO.out]; rfl)).symm, bt (bt HB.out BW.out) HW2.out⟩
          go_wp2_with fail
          refine (in_c _ _ _ _).mono ?_
          rintro e w1 ⟨rfl, rfl⟩
          generalize inB (rd_T65 st i).f3 1 2 = r3 at *
          cases r3
          · go_wp2_with fail
            go_ret
            exact ⟨ret_i64 (HN.out (b := True) (by rw [HO.out]; rfl)).symm, bt (bt HB.out BW.out) HW2.out⟩
          go_wp2_with fail
          have HS1 : Aside0 (stOK (cSt (st.getD i.toNat z65)) = true) := ⟨by rw [HO.out]; rfl⟩
          clear HO HN
          have HBX := Aside0.mk (blk_new W2 (.cells #[.int .i64 (rd_T65 st i).f0, .int .i64 (rd_T65 st i).f1, .int .i64 (rd_T65 st i).f2, .int .i64 (rd_T65 st i).f3] 65))
          clear x0 x1 x2 x3
          go_loopg [6] st.length (fun gg s6 wi => ∃ k : Int, s6 = .int .i64 k ∧ 0 ≤ k ∧ k ≤ i ∧ (st.length : Int) - k ≤ (gg : Int) ∧ Aside0 (Below W2.heap.size W2 wi) ∧ Aside0 (wi.heap[W2.heap.size]? = some (.cells #[.int .i64 (rd_T65 st i).f0, .int .i64 (rd_T65 st i).f1, .int .i64 (rd_T65 st i).f2, .int .i64 (rd_T65 st i).f3] 65 (0, 0))) ∧ Aside0 (∀ b : Int, 0 ≤ b → b < k → samePl (rd_T85 (st.map cSt) b) (rd_T85 (st.map cSt) i) = false))
          case atStart => exact ⟨0, rfl, by omega, by omega, by omega, HW2, HBX, ⟨fun b h1 h2 => by omega⟩⟩
          case round =>
            clear HW2 HBX d0
            obtain ⟨k, rfl, k0, k1, hgk, BW2, BX, BQ⟩ := hrel
            have d0 := cb BW2.out (cb BW.out HD.out.1)
            by_cases hkt : k < i
            · obtain ⟨ad', e0, y0, y1, y2, y3⟩ := at_T65 (Kd.C_below (Kd.C_below HI.out.1 BW.out) BW2.out) k k0 (by omega)
              cases e0
              have s0 := (blk_cell BX.out 0).trans rfl
              have s1 := (blk_cell BX.out 1).trans rfl
              have HSM : Aside0 (samePl (rd_T85 (st.map cSt) k) (rd_T85 (st.map cSt) i) = ((rd_T65 st k).f0 == (rd_T65 st i).f0 && (rd_T65 st k).f1 == (rd_T65 st i).f1)) := ⟨by rw [rd_map k0 (by omega), rd_map h0 hlt]; rfl⟩
              clear y2 y3
              obtain ⟨W3, rfl⟩ : ∃ W3 : World, W3 = wr := ⟨_, rfl⟩
              replace y0 := fun d os => cell_regrown y0 d os
              replace y1 := fun d os => cell_regrown y1 d os
              replace s0 := fun d os => cell_regrown s0 d os
              replace s1 := fun d os => cell_regrown s1 d os
              replace d0 := fun d os => cell_regrown d0 d os
              have HAD := Aside0.mk BP.out
              rcases two_bools ((rd_T65 st k).f0 == (rd_T65 st i).f0) ((rd_T65 st k).f1 == (rd_T65 st i).f1) with t1 | ⟨t1, t2⟩ | ⟨t1, t2⟩
              all_goals
                go_wp2_with fail
                refine wp_region_quiet_below (by kernel_rfl) (by kernel_rfl) ?_
                repeat (go_big_quiet_step (fail))
                refine wpQuiet_nil ?_
                intro _ hw'
                obtain ⟨⟨dq, osq⟩, hw''⟩ := hw'
                subst hw''
                have HBF := Aside0.mk (bt BW2.out (below_regrown W3 dq osq))
                have BXF := Aside0.mk (blk_below BX.out (below_regrown W3 dq osq))
                clear y0 y1 s0 s1 d0
                generalize grow (redrawn W3 dq) osq = WF at *
                go_wp2_with fail
              · go_roundg (st.length - (k + 1).toNat)
                case measure => omega
                case rel =>
                  refine ⟨k + 1, by first | rfl | go_num, by omega, by omega, by omega, HBF, BXF, ⟨fun b h1 h2 => ?_⟩⟩
                  by_cases e : b = k
                  · rw [e, HSM.out, t1]; rfl
                  · exact BQ.out b h1 (by omega)
              · go_roundg (st.length - (k + 1).toNat)
                case measure => omega
                case rel =>
                  refine ⟨k + 1, by first | rfl | go_num, by omega, by omega, by omega, HBF, BXF, ⟨fun b h1 h2 => ?_⟩⟩
                  by_cases e : b = k
                  · rw [e, HSM.out, t1, t2]; rfl
                  · exact BQ.out b h1 (by omega)
              · go_ret
                refine ⟨ret_i64 ?_, bt (bt HB.out BW.out) HBF.out⟩
                rw [HC2.out, if_neg]
                rw [goodL_bad (.inr (.inr (.inr (.inr (.inl (apart_no k0 hkt (by simpa using hlt) (by rw [HSM.out, t1, t2]; rfl)))))))]
                decide
            · have e : k = i := by omega
              subst e
              go_wp2_with fail
              go_roundg (st.length - (k + 1).toNat)
              case measure => omega
              case rel =>
                refine ⟨k + 1, by first | rfl | go_num, by omega, by omega, by omega, ⟨bt BW.out BW2.out⟩, ⟨fun j hj => ?_⟩, ⟨fun a b h1 h2 h3 => ?_⟩⟩
                · by_cases e : (j : Int) = k
                  · have := HS1.out
                    rw [← e] at this
                    exact this
                  · exact BA.out j (by omega)
                · by_cases e : a = k
                  · rw [e]; exact BQ.out b h1 (by omega)
                  · exact BP.out a b h1 h2 (by omega)
        · have e : i = (st.length : Int) := by omega
          subst e
          have HST : Aside0 ((st.map cSt).all stOK = true ∧ apartB (st.map cSt) = true) := ⟨all_fine fun j hj => BA.out j (by omega), apart_yes fun a b h1 h2 h3 => BP.out a b h1 h2 (by simpa using h3)⟩
          replace HI : Aside0 (Kd.C k65 W2 A0 st.length st ∧ Kd.C k55 W2 A1 ri.length ri ∧ Kd.C (Kd.slice 61 k61) W2 A2 ca.length ca ∧ Kd.C k50 W2 A3 su.length su) := ⟨Kd.C_below HI.out.1 BW.out, Kd.C_below HI.out.2.1 BW.out, Kd.C_below HI.out.2.2.1 BW.out, Kd.C_below HI.out.2.2.2 BW.out⟩
          replace HB := Aside0.mk (bt HB.out BW.out)
          have d1 := cb BW.out HD.out.2.1
          have d2 := cb BW.out HD.out.2.2.1
          have d3 := cb BW.out HD.out.2.2.2
          replace HD := Aside0.mk (And.intro d0 (And.intro d1 (And.intro d2 d3)))
          clear BA BP BW
          go_upto_region 21 with (fail)
          go_wp2_with fail
          obtain ⟨W3, rfl⟩ : ∃ W3 : World, W3 = W2 := ⟨_, rfl⟩
          go_loopg [7] ri.length (fun gg s7 wr => ∃ i : Int, s7 = .int .i64 i ∧ 0 ≤ i ∧ i ≤ (ri.length : Int) ∧ (ri.length : Int) - i ≤ (gg : Int) ∧ Aside0 (Below W3.heap.size W3 wr) ∧ Aside0 (∀ j : Nat, (j : Int) < i → ridgeOK (cWl (ri.getD j z55)) = true))
          case atStart => exact ⟨0, rfl, by omega, by omega, by omega, ⟨Below.refl _ _⟩, ⟨fun j h => by omega⟩⟩
          case round =>
            clear d0 d1 d2 d3
            obtain ⟨i, rfl, h0, h1, hg, BW, BA⟩ := hrel
            obtain ⟨W2, rfl⟩ : ∃ W2 : World, W2 = wr := ⟨_, rfl⟩
            have d1 := cb BW.out HD.out.2.1
            by_cases hlt : i < (ri.length : Int)
            · obtain ⟨ad, e0, x0, x1, x2, x3, x4, x5⟩ := at_T55 (Kd.C_below HI.out.2.1 BW.out) i h0 hlt
              cases e0
              have HO : Aside0 (ridgeOK (cWl (ri.getD i.toNat z55)) = (wallOK (cWl (rd_T55 ri i)) && (rd_T55 ri i).f4 == 0)) := ⟨rfl⟩
              have HN : Aside0 (∀ {b : Prop}, ridgeOK (cWl (ri.getD i.toNat z55)) = false → v = 1) := ⟨fun h => by rw [HC2.out, if_neg]; rw [goodL_bad (.inr (.inr (.inr (.inr (.inr (.inl (all_bad h0 hlt h)))))))]; decide⟩
              go_wp2_with fail
              refine (iswall_c (rd_T55 ri i) _).mono ?_
              rintro e w1 ⟨rfl, hb1⟩
              have d1' := cb hb1 d1
              have x4' := cb hb1 x4
              have HB1 := Aside0.mk hb1
              clear hb1 x0 x1 x2 x3 x4 x5 d1
              generalize wallOK (cWl (rd_T55 ri i)) = r at *
              cases r
              · go_wp2_with fail
                go_ret
                exact ⟨ret_i64 (HN.out (b := True) (by rw [HO.out]; rfl)).symm, bt (bt HB.out BW.out) HB1.out⟩
              cases t1 : ((rd_T55 ri i).f4 == 0)
              · have t2 : ((rd_T55 ri i).f4 != 0) = true := by simpa using t1
                have HN1 := Aside0.mk (HN.out (b := True) (by rw [HO.out, t1]; rfl))
                clear t1
                go_wp2_with fail
                go_ret
                exact ⟨ret_i64 HN1.out.symm, bt (bt HB.out BW.out) HB1.out⟩
              · have t2 : ((rd_T55 ri i).f4 != 0) = false := by simpa using t1
                have HS1 : Aside0 (ridgeOK (cWl (ri.getD i.toNat z55)) = true) := ⟨by rw [HO.out, t1]; rfl⟩
                clear t1 HN
                go_wp2_with fail
                go_roundg (ri.length - (i + 1).toNat)
                case measure => omega
                case rel =>
                  refine ⟨i + 1, by first | rfl | go_num, by omega, by omega, by omega, ⟨bt BW.out HB1.out⟩, ⟨fun j hj => ?_⟩⟩
                  by_cases e : (j : Int) = i
                  · have := HS1.out
                    rw [← e] at this
                    exact this
                  · exact BA.out j (by omega)
            · have e : i = (ri.length : Int) := by omega
              subst e
              have HRI : Aside0 ((ri.map cWl).all ridgeOK = true) := ⟨all_fine fun j hj => BA.out j (by omega)⟩
              replace HI : Aside0 (Kd.C k65 W2 A0 st.length st ∧ Kd.C k55 W2 A1 ri.length ri ∧ Kd.C (Kd.slice 61 k61) W2 A2 ca.length ca ∧ Kd.C k50 W2 A3 su.length su) := ⟨Kd.C_below HI.out.1 BW.out, Kd.C_below HI.out.2.1 BW.out, Kd.C_below HI.out.2.2.1 BW.out, Kd.C_below HI.out.2.2.2 BW.out⟩
              replace HB := Aside0.mk (bt HB.out BW.out)
              have d0 := cb BW.out HD.out.1
              have d2 := cb BW.out HD.out.2.2.1
              have d3 := cb BW.out HD.out.2.2.2
              replace HD := Aside0.mk (And.intro d0 (And.intro d1 (And.intro d2 d3)))
              clear BA BW
              go_upto_region 26 with (fail)
              go_wp2_with fail
              obtain ⟨W3, rfl⟩ : ∃ W3 : World, W3 = W2 := ⟨_, rfl⟩
              go_loopg [8] ca.length (fun gg s8 wr => ∃ i : Int, s8 = .int .i64 i ∧ 0 ≤ i ∧ i ≤ (ca.length : Int) ∧ (ca.length : Int) - i ≤ (gg : Int) ∧ Aside0 (Below W3.heap.size W3 wr) ∧ Aside0 (∀ j : Nat, (j : Int) < i → ((ca.getD j []).map cCl).all (cloudOK su.length) = true))
              case atStart => exact ⟨0, rfl, by omega, by omega, by omega, ⟨Below.refl _ _⟩, ⟨fun j h => by omega⟩⟩
              case round =>
                clear d0 d1 d2 d3
                obtain ⟨i, rfl, h0, h1, hg, BW, BA⟩ := hrel
                obtain ⟨W2, rfl⟩ : ∃ W2 : World, W2 = wr := ⟨_, rfl⟩
                have d2 := cb BW.out HD.out.2.2.1
                have d3 := cb BW.out HD.out.2.2.2
                by_cases hlt : i < (ca.length : Int)
                · obtain ⟨ad, A', c', e0, hcell, hl, hC⟩ := at_L3 (Kd.C_below HI.out.2.2.1 BW.out) i h0 hlt
                  cases e0
                  have hln := hC.2.1
                  have HCL := Aside0.mk hC
                  clear hC
                  have HCELL := Aside0.mk hcell
                  have HD23 := Aside0.mk (And.intro d2 d3)
                  have HO : Aside0 (((ca.getD i.toNat []).map cCl).all (cloudOK su.length) = ((rd_L3 ca i).map cCl).all (cloudOK su.length)) := ⟨rfl⟩
                  have HN : Aside0 (∀ {b : Prop}, ((ca.getD i.toNat []).map cCl).all (cloudOK su.length) = false → v = 1) := ⟨fun h => by rw [HC2.out, if_neg]; rw [goodL_bad (.inr (.inr (.inr (.inr (.inr (.inr (.inl (all_bad (f := fun x : List S61 => x.map cCl) (p := fun k : List S88 => k.all (cloudOK ((su.map cSu).length))) h0 hlt (by rw [List.length_map]; exact h)))))))))]; decide⟩
                  go_wp2_with fail
                  go_loopg [9] (rd_L3 ca i).length (fun gg s9 wr => ∃ k : Int, s9 = .int .i64 k ∧ 0 ≤ k ∧ k ≤ ((rd_L3 ca i).length : Int) ∧ ((rd_L3 ca i).length : Int) - k ≤ (gg : Int) ∧ Aside0 (Below W2.heap.size W2 wr) ∧ Aside0 (∀ j : Nat, (j : Int) < k → cloudOK su.length (cCl ((rd_L3 ca i).getD j z61)) = true))
                  case atStart => exact ⟨0, rfl, by omega, by omega, by omega, ⟨Below.refl _ _⟩, ⟨fun j h => by omega⟩⟩
                  case round =>
                    clear hcell d2 d3
                    obtain ⟨k, rfl, k0, k1, hgk, BW2, BQ⟩ := hrel
                    have hcell := cb BW2.out HCELL.out
                    have d2 := cb BW2.out HD23.out.1
                    have d3 := cb BW2.out HD23.out.2
                    obtain ⟨W4, rfl⟩ : ∃ W4 : World, W4 = wr := ⟨_, rfl⟩
                    by_cases hkt : k < ((rd_L3 ca i).length : Int)
                    · obtain ⟨ad', e0, x0, x1, x2, x3, x4, x5, x6, x7⟩ := at_T61 (Kd.C_below HCL.out BW2.out) k k0 hkt
                      cases e0
                      go_wp2_with fail
                      have HBX := Aside0.mk (blk_new W4 (.cells #[.int .i64 (rd_T61 (rd_L3 ca i) k).f0.f0, .int .i64 (rd_T61 (rd_L3 ca i) k).f0.f1, .int .i64 (rd_T61 (rd_L3 ca i) k).f0.f2, .int .i64 (rd_T61 (rd_L3 ca i) k).f0.f3, .int .i64 (rd_T61 (rd_L3 ca i) k).f0.f4, .int .i64 (rd_T61 (rd_L3 ca i) k).f0.f5, .int .i64 (rd_T61 (rd_L3 ca i) k).f1, .int .i64 (rd_T61 (rd_L3 ca i) k).f2] 61))
                      have HB4 := Aside0.mk (b1 W4 (.cells #[.int .i64 (rd_T61 (rd_L3 ca i) k).f0.f0, .int .i64 (rd_T61 (rd_L3 ca i) k).f0.f1, .int .i64 (rd_T61 (rd_L3 ca i) k).f0.f2, .int .i64 (rd_T61 (rd_L3 ca i) k).f0.f3, .int .i64 (rd_T61 (rd_L3 ca i) k).f0.f4, .int .i64 (rd_T61 (rd_L3 ca i) k).f0.f5, .int .i64 (rd_T61 (rd_L3 ca i) k).f1, .int .i64 (rd_T61 (rd_L3 ca i) k).f2] 61))
                      have HO2 : Aside0 (cloudOK su.length (cCl ((rd_L3 ca i).getD k.toNat z61)) = (wallOK (cWl (rd_T61 (rd_L3 ca i) k).f0) && inB (rd_T61 (rd_L3 ca i) k).f1 0 (rd_T61 (rd_L3 ca i) k).f2 && decide ((rd_T61 (rd_L3 ca i) k).f2 < su.length))) := ⟨rfl⟩
                      have HN2 : Aside0 (∀ {b : Prop}, cloudOK su.length (cCl ((rd_L3 ca i).getD k.toNat z61)) = false → v = 1) := ⟨fun h => HN.out (b := True) (by rw [HO.out]; exact all_bad k0 hkt h)⟩
                      refine (iswall_c (rd_T61 (rd_L3 ca i) k).f0 _).mono ?_
                      rintro e w1 ⟨rfl, hb1⟩
                      have y6 := (blk_cell (blk_below HBX.out hb1) 6).trans rfl
                      have y7 := (blk_cell (blk_below HBX.out hb1) 7).trans rfl
                      have d3' := cb hb1 (cb HB4.out d3)
                      have HB5 := Aside0.mk (bt BW2.out (bt HB4.out hb1))
                      clear hb1 HB4 HBX x0 x1 x2 x3 x4 x5 x6 x7 d2 d3 hcell
                      generalize wallOK (cWl (rd_T61 (rd_L3 ca i) k).f0) = r0 at *
                      cases r0
                      · go_wp2_with fail
                        go_ret
                        exact ⟨ret_i64 (HN2.out (b := True) (by rw [HO2.out]; rfl)).symm, bt (bt HB.out BW.out) HB5.out⟩
                      go_wp2_with fail
                      refine (in_c _ _ _ _).mono ?_
                      rintro e w2 ⟨rfl, rfl⟩
                      generalize inB (rd_T61 (rd_L3 ca i) k).f1 0 (rd_T61 (rd_L3 ca i) k).f2 = r1 at *
                      cases r1
                      · go_wp2_with fail
                        go_ret
                        exact ⟨ret_i64 (HN2.out (b := True) (by rw [HO2.out]; rfl)).symm, bt (bt HB.out BW.out) HB5.out⟩
                      by_cases ht : (rd_T61 (rd_L3 ca i) k).f2 < su.length
                      · have HS2 : Aside0 (cloudOK su.length (cCl ((rd_L3 ca i).getD k.toNat z61)) = true) := ⟨by rw [HO2.out]; simpa using ht⟩
                        clear HO2 HN2
                        go_wp2_with fail
                        go_roundg ((rd_L3 ca i).length - (k + 1).toNat)
                        case measure => omega
                        case rel =>
                          refine ⟨k + 1, by first | rfl | go_num, by omega, by omega, by omega, HB5, ⟨fun j hj => ?_⟩⟩
                          by_cases e : (j : Int) = k
                          · have := HS2.out
                            rw [← e] at this
                            exact this
                          · exact BQ.out j (by omega)
                      · have HE1 : Aside0 (v = 1) := ⟨HN2.out (b := True) (by rw [HO2.out]; simpa using ht)⟩
                        go_wp2_with fail
                        go_ret
                        exact ⟨ret_i64 HE1.out.symm, bt (bt HB.out BW.out) HB5.out⟩
                    · have e : k = ((rd_L3 ca i).length : Int) := by omega
                      subst e
                      have HS3 : Aside0 (((ca.getD i.toNat []).map cCl).all (cloudOK su.length) = true) := ⟨by rw [HO.out]; exact all_fine fun j hj => BQ.out j (by omega)⟩
                      go_wp2_with fail
                      go_roundg (ca.length - (i + 1).toNat)
                      case measure => omega
                      case rel =>
                        refine ⟨i + 1, by first | rfl | go_num, by omega, by omega, by omega, ⟨bt BW.out BW2.out⟩, ⟨fun j hj => ?_⟩⟩
                        by_cases e : (j : Int) = i
                        · have := HS3.out
                          rw [← e] at this
                          exact this
                        · exact BA.out j (by omega)
                · have e : i = (ca.length : Int) := by omega
                  subst e
                  have HCA : Aside0 (((ca.map (·.map cCl)).all fun k => k.all (cloudOK ((su.map cSu).length))) = true) := ⟨all_fine (f := fun x : List S61 => x.map cCl) (p := fun k : List S88 => k.all (cloudOK ((su.map cSu).length))) (z := []) fun j hj => by rw [List.length_map]; exact BA.out j (by omega)⟩
                  replace HI : Aside0 (Kd.C k50 W2 A3 su.length su) := ⟨Kd.C_below HI.out.2.2.2 BW.out⟩
                  replace HB := Aside0.mk (bt HB.out BW.out)
                  replace HD := Aside0.mk d3
                  clear BA BW
                  go_upto_region 35 with (fail)
                  go_wp2_with fail
                  obtain ⟨W3, rfl⟩ : ∃ W3 : World, W3 = W2 := ⟨_, rfl⟩
                  go_loopg [11] su.length (fun gg s11 wr => ∃ i : Int, s11 = .int .i64 i ∧ 0 ≤ i ∧ i ≤ (su.length : Int) ∧ (su.length : Int) - i ≤ (gg : Int) ∧ Aside0 (Below W3.heap.size W3 wr) ∧ Aside0 (∀ j : Nat, (j : Int) < i → sunOK (cSu (su.getD j z50)) = true))
                  case atStart => exact ⟨0, rfl, by omega, by omega, by omega, ⟨Below.refl _ _⟩, ⟨fun j h => by omega⟩⟩
                  case round =>
                    clear d2 d3
                    obtain ⟨i, rfl, h0, h1, hg, BW, BA⟩ := hrel
                    obtain ⟨W2, rfl⟩ : ∃ W2 : World, W2 = wr := ⟨_, rfl⟩
                    have d3 := cb BW.out HD.out
                    by_cases hlt : i < (su.length : Int)
                    · obtain ⟨ad, e0, x0, x1, x2⟩ := at_T50 (Kd.C_below HI.out BW.out) i h0 hlt
                      cases e0
                      go_wp2_with fail
                      have HB4 := Aside0.mk (b1 W2 (.cells #[.int .i64 (rd_T50 su i).f0, .int .i64 (rd_T50 su i).f1, .int .i64 (rd_T50 su i).f2] 50))
                      have HO : Aside0 (sunOK (cSu (su.getD i.toNat z50)) = (inB (rd_T50 su i).f0 (-100) 100 && inB (rd_T50 su i).f1 (-100) 100 && inB (rd_T50 su i).f2 (-100) 100)) := ⟨rfl⟩
                      have HN : Aside0 (∀ {b : Prop}, sunOK (cSu (su.getD i.toNat z50)) = false → v = 1) := ⟨fun h => by rw [HC2.out, if_neg]; rw [goodL_bad (.inr (.inr (.inr (.inr (.inr (.inr (.inr (all_bad h0 hlt h))))))))]; decide⟩
                      refine (in_c _ _ _ _).mono ?_
                      rintro e w1 ⟨rfl, rfl⟩
                      generalize inB (rd_T50 su i).f0 (-100) 100 = r0 at *
                      cases r0
                      · go_wp2_with fail
                        go_ret
                        exact ⟨ret_i64 (HN.out (b := True) (by rw [HO.out]; rfl)).symm, bt (bt HB.out BW.out) HB4.out⟩
                      go_wp2_with fail
                      refine (in_c _ _ _ _).mono ?_
                      rintro e w1 ⟨rfl, rfl⟩
                      generalize inB (rd_T50 su i).f1 (-100) 100 = r1 at *
                      cases r1
                      · go_wp2_with fail
                        go_ret
                        exact ⟨ret_i64 (HN.out (b := True) (by rw [HO.out]; rfl)).symm, bt (bt HB.out BW.out) HB4.out⟩
                      go_wp2_with fail
                      refine (in_c _ _ _ _).mono ?_
                      rintro e w1 ⟨rfl, rfl⟩
                      generalize inB (rd_T50 su i).f2 (-100) 100 = r2 at *
                      cases r2
                      · go_wp2_with fail
                        go_ret
                        exact ⟨ret_i64 (HN.out (b := True) (by rw [HO.out]; rfl)).symm, bt (bt HB.out BW.out) HB4.out⟩
                      have HS1 : Aside0 (sunOK (cSu (su.getD i.toNat z50)) = true) := ⟨by rw [HO.out]; rfl⟩
                      clear HO HN
                      go_wp2_with fail
                      go_roundg (su.length - (i + 1).toNat)
                      case measure => omega
                      case rel =>
                        refine ⟨i + 1, by first | rfl | go_num, by omega, by omega, by omega, ⟨bt BW.out HB4.out⟩, ⟨fun j hj => ?_⟩⟩
                        by_cases e : (j : Int) = i
                        · have := HS1.out
                          rw [← e] at this
                          exact this
                        · exact BA.out j (by omega)
                    · have e : i = (su.length : Int) := by omega
                      subst e
                      have HSU : Aside0 ((su.map cSu).all sunOK = true) := ⟨all_fine fun j hj => BA.out j (by omega)⟩
                      go_wp2_with fail
                      go_ret
                      refine ⟨ret_i64 ?_, bt HB.out BW.out⟩
                      rw [HC2.out, if_pos]
                      unfold goodL
                      rw [HST.out.1, HST.out.2, HRI.out, HCA.out, HSU.out, HZ.out.1, HZ.out.2.1, HZ.out.2.2]
                      rfl
theorem fault_c (R : Rv) (w : World) (hI : R.In w) : Calls Try.prog 51 #[.agg R.cells] w fun e w' => e = .returned (.int .i64 R.lv.check) ∧ Below w.heap.size w w' :=
  fault_w R.st R.ri R.ca R.su R.A0 R.A1 R.A2 R.A3 R.c0 R.c1 R.c2 R.c3 _ ⟨rfl⟩ w hI.r0 hI.r1 hI.r2 hI.r3
end Go.Proofs.Ytkbdphjnpieceaa.G
