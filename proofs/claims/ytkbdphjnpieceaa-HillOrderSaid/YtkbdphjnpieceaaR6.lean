/- The reference's Walls, Why, Can over a land. -/
import Derived.Test.YtkbdphjnpieceaaR5
namespace Go.Proofs.Ytkbdphjnpieceaa.G
open Go.RowKit Go.Proofs.YtkbdphjnpieceaaW.PrintWords Go.Proofs.YtkbdphjnpieceaaW.PrintLast Go.Proofs.YtkbdphjnpieceaaW.PrintMore
open Go.Sort (grow)
set_option linter.unusedVariables false
set_option linter.unusedSimpArgs false

theorem getD_map_ {α β : Type} (f : α → β) (xs : List α) (n : Nat) (z : α) : (xs.map f).getD n (f z) = f (xs.getD n z) := by
  simp only [List.getD_eq_getElem?_getD, List.getElem?_map]
  cases xs[n]? <;> rfl
theorem lv_st (R : Rv) (i : Int) : rd_T85 R.lv.st i = cSt (rd_T65 R.st i) := getD_map_ cSt R.st i.toNat z65
theorem lv_ri (R : Rv) (i : Int) : rd_T86 R.lv.ri i = cWl (rd_T55 R.ri i) := getD_map_ cWl R.ri i.toNat z55
theorem lv_su (R : Rv) (i : Int) : rd_T99 R.lv.su i = cSu (rd_T50 R.su i) := getD_map_ cSu R.su i.toNat z50
theorem lv_ca (R : Rv) (k : Int) : rd_L9 R.lv.ca k = (rd_L3 R.ca k).map cCl := getD_map_ (fun x : List S61 => x.map cCl) R.ca k.toNat []
theorem lv_cl (R : Rv) (k i : Int) : rd_T88 (rd_L9 R.lv.ca k) i = cCl (rd_T61 (rd_L3 R.ca k) i) := by rw [lv_ca]; exact getD_map_ cCl (rd_L3 R.ca k) i.toNat z61
theorem lv_len0 (R : Rv) : R.lv.st.length = R.st.length := List.length_map ..
theorem lv_len1 (R : Rv) : R.lv.ri.length = R.ri.length := List.length_map ..
theorem lv_len2 (R : Rv) : R.lv.ca.length = R.ca.length := List.length_map ..
theorem lv_len3 (R : Rv) : R.lv.su.length = R.su.length := List.length_map ..
theorem lv_len4 (R : Rv) (k : Int) : (rd_L9 R.lv.ca k).length = (rd_L3 R.ca k).length := by rw [lv_ca]; exact List.length_map ..

/-- Stations, a case and an hour of a land. -/
structure Lv.At (L : Lv) (f t k h : Int) : Prop where
  f0 : 0 ≤ f
  f1 : f < L.st.length
  t0 : 0 ≤ t
  t1 : t < L.st.length
  k0 : 0 ≤ k
  k1 : k < L.ca.length
  h0 : 0 ≤ h
  h1 : h < L.su.length

theorem rwalls_c (R : Rv) (f t k h : Int) (w : World) (hI : R.In w) (hL : R.lv.Ok) (hA : R.lv.At f t k h) :
    Calls Try.prog 43 #[.agg R.cells, .int .i64 f, .int .i64 t, .int .i64 k, .int .i64 h] w fun e w' => ∃ v0 v1 : Value, e = .returned (.tuple #[v0, v1]) ∧ Kd.R (Kd.int .i64) 3 w' w.heap.size (fun _ => True) v0 (ridgesL R.lv f t) ∧ Kd.R (Kd.int .i64) 3 w' w.heap.size (fun _ => True) v1 (cloudsL R.lv f t k h) ∧ Below w.heap.size w w' := by
  have h1 : ridgesL R.lv f t = filK (fun i => blocksB (rd_T86 R.lv.ri i) (rd_T85 R.lv.st f) (rd_T85 R.lv.st t)) R.ri.length := by rw [← lv_len1]; rfl
  have h2 : cloudsL R.lv f t k h = filK (clB R.lv f t k h) (rd_L3 R.ca k).length := by rw [← lv_len4]; rfl
  rw [h1, h2]
  have hf1 := hA.f1
  have ht1 := hA.t1
  have hk1 := hA.k1
  rw [lv_len0] at hf1 ht1
  rw [lv_len2] at hk1
  have q4 := hL.cl4 k
  rw [lv_len4] at q4
  have q6 := hL.ri6
  rw [lv_len1] at q6
  refine walls_w _ _ R.st R.ri R.ca _ R.A0 R.A1 R.A2 R.A3 R.su.length R.c0 R.c1 R.c2 R.c3 f t k h _ _ w hI.r0 hI.r1 hI.r2 hA.f0 hf1 hA.t0 ht1 hA.k0 hk1 rfl rfl rfl ?_ ?_ (by omega) (by omega) (fun i h0 h1 => ?_) (fun i h0 h1 => ?_) (fun i => ?_) (fun i => ?_)
  · rw [← lv_st]; exact hL.st f hA.f0 hA.f1
  · rw [← lv_st]; exact hL.st t hA.t0 hA.t1
  · rw [← lv_ri]
    have := hL.ri i.toNat (by rw [lv_len1]; omega)
    rwa [Int.toNat_of_nonneg h0] at this
  · have := hL.cl k i.toNat (by rw [lv_len4]; omega)
    rw [Int.toNat_of_nonneg h0, lv_cl] at this
    exact this
  · rw [lv_ri, lv_st, lv_st]
  · unfold clB; rw [lv_cl, lv_st, lv_st]; rfl
theorem rbehind_c (R : Rv) (f t k h : Int) (w : World) (hI : R.In w) (hL : R.lv.Ok) (hA : R.lv.At f t k h) :
    Calls Try.prog 27 #[.agg R.cells, .int .i64 f, .int .i64 t, .int .i64 h] w fun e w' => e = .returned (.bool (behB (rd_T85 R.lv.st f) (rd_T85 R.lv.st t) (rd_T99 R.lv.su h))) ∧ Below w.heap.size w w' := by
  have hf1 := hA.f1
  have ht1 := hA.t1
  have hh1 := hA.h1
  have o1 := hL.st f hA.f0 hA.f1
  have o2 := hL.st t hA.t0 hA.t1
  have o3 := hL.su h hA.h0 hA.h1
  rw [lv_st] at o1 o2
  rw [lv_su] at o3
  rw [lv_len0] at hf1 ht1
  rw [lv_len3] at hh1
  rw [lv_st, lv_st, lv_su]
  exact behind_w _ _ _ R.st R.su R.A0 R.A1 R.A2 R.A3 R.ri.length R.ca.length R.c0 R.c1 R.c2 R.c3 f t h w hI.r0 hI.r3 hA.f0 hf1 hA.t0 ht1 hA.h0 hh1 rfl rfl rfl o1 o2 o3

/-- One or two mirrors. -/
def Lv.Mir (L : Lv) : Prop := ∀ i : Int, 0 ≤ i → i < L.st.length → 1 ≤ (rd_T85 L.st i).f3 ∧ (rd_T85 L.st i).f3 ≤ 2
theorem Lv.mir_of {L : Lv} (h : L.check = 0) : L.Mir := by
  intro i h0 h1
  have hs : smallL L.st L.ri L.ca L.su ∧ goodL L.st L.ri L.ca L.su = true := by
    unfold Lv.check at h
    by_cases hb : 6 < (L.st.length : Int) ∨ 6 < (L.ri.length : Int) ∨ 4 < (L.ca.length : Int) ∨ 12 < (L.su.length : Int) ∨ L.ca.all fewB = false
    · rw [check_big hb] at h; exact absurd h (by decide)
    · have hsm : smallL L.st L.ri L.ca L.su := ⟨fun c => hb (.inl c), fun c => hb (.inr (.inl c)), fun c => hb (.inr (.inr (.inl c))), fun c => hb (.inr (.inr (.inr (.inl c)))), by
        cases hq : L.ca.all fewB
        · exact absurd (.inr (.inr (.inr (.inr hq)))) hb
        · rfl⟩
      rw [check_good hsm] at h
      refine ⟨hsm, ?_⟩
      by_cases hg : goodL L.st L.ri L.ca L.su = true
      · exact hg
      · rw [if_neg hg] at h; exact absurd h (by decide)
  have hg := hs.2
  unfold goodL at hg
  simp only [Bool.and_eq_true, List.all_eq_true] at hg
  have := hg.1.1.1.1.2 _ (rd_mem L.st z85 i h0 h1)
  simp only [stOK, Bool.and_eq_true, inB_iff] at this
  exact this.2
theorem why_of (L : Lv) (f t k h : Int) (hM : 1 ≤ (rd_T85 L.st f).f3 ∧ (rd_T85 L.st f).f3 ≤ 2) : whyF L f t k h = if (rd_T99 L.su h).f2 ≤ 0 then (1, 0)
    else if (behB (rd_T85 L.st f) (rd_T85 L.st t) (rd_T99 L.su h) && (rd_T85 L.st f).f3 == 1) = true then (2, 0)
    else if 0 < (ridgesL L f t).length then (3, (ridgesL L f t).headD 0) else if 0 < (cloudsL L f t k h).length then (4, (cloudsL L f t k h).headD 0) else (0, 0) := by
  unfold whyF
  have e : ((rd_T85 L.st f).f3 < mirrorsF (rd_T85 L.st f) (rd_T85 L.st t) (rd_T99 L.su h)) = ((behB (rd_T85 L.st f) (rd_T85 L.st t) (rd_T99 L.su h) && (rd_T85 L.st f).f3 == 1) = true) := by
    unfold mirrorsF behB
    apply propext
    split <;> rename_i hc <;> simp [hc] <;> omega
  simp only [e]
/-- What Why answers. -/
structure WRes (L : Lv) (f t k h : Int) (r : Int × Int) : Prop where
  out : r = whyF L f t k h

set_option maxHeartbeats 8000000 in
set_option maxRecDepth 100000 in
theorem rwhy_c (R : Rv) (f t k h : Int) (w : World) (hI : R.In w) (hL : R.lv.Ok) (hM : R.lv.Mir) (hA : R.lv.At f t k h) :
    Calls Try.prog 42 #[.agg R.cells, .int .i64 f, .int .i64 t, .int .i64 k, .int .i64 h] w fun e w' => e = .returned (.tuple #[.int .u8 (whyF R.lv f t k h).1, .int .i64 (whyF R.lv f t k h).2]) ∧ Below w.heap.size w w' := by
  have CB := Aside0.mk fun W hb => rbehind_c R f t k h W (hI.below hb) hL hA
  have CW := Aside0.mk fun W hb => rwalls_c R f t k h W (hI.below hb) hL hA
  have HE := Aside0.mk (why_of R.lv f t k h (hM f hA.f0 hA.f1))
  have hf1 := hA.f1
  have hh1 := hA.h1
  rw [lv_len0] at hf1
  rw [lv_len3] at hh1
  obtain ⟨ad, e0, x0, x1, x2, x3⟩ := at_T65 hI.r0 f hA.f0 hf1
  obtain ⟨ae, e3, z0, z1, z2⟩ := at_T50 hI.r3 h hA.h0 hh1
  have hf0 := hA.f0
  have hh0 := hA.h0
  have l0 := hI.r0.2.1
  have l3 := hI.r3.2.1
  have e1 : (rd_T85 R.lv.st f).f3 = (rd_T65 R.st f).f3 := by rw [lv_st]; rfl
  have e2 : (rd_T99 R.lv.su h).f2 = (rd_T50 R.su h).f2 := by rw [lv_su]; rfl
  rw [e1, e2] at HE
  clear hI hL hM hA e1 e2 x0 x1 x2 z0 z1
  generalize R.lv = L at *
  obtain ⟨st, ri, ca, su, A0, A1, A2, A3, c0, c1, c2, c3⟩ := R
  simp only at e0 e3 x3 z2 hf1 hh1 l0 l3 HE
  subst e0
  subst e3
  have HB := Aside0.mk (b1 w (.cells #[.slice (some ad) st.length c0, .slice A1 ri.length c1, .slice A2 ca.length c2, .slice (some ae) su.length c3] 27))
  have d0 : (w.alloc (.cells #[.slice (some ad) st.length c0, .slice A1 ri.length c1, .slice A2 ca.length c2, .slice (some ae) su.length c3] 27)).cell? ⟨w.heap.size, 0, none⟩ = some (.slice (some ad) st.length c0) := cnew rfl rfl
  have d1 : (w.alloc (.cells #[.slice (some ad) st.length c0, .slice A1 ri.length c1, .slice A2 ca.length c2, .slice (some ae) su.length c3] 27)).cell? ⟨w.heap.size, 1, none⟩ = some (.slice A1 ri.length c1) := cnew rfl rfl
  have d2 : (w.alloc (.cells #[.slice (some ad) st.length c0, .slice A1 ri.length c1, .slice A2 ca.length c2, .slice (some ae) su.length c3] 27)).cell? ⟨w.heap.size, 2, none⟩ = some (.slice A2 ca.length c2) := cnew rfl rfl
  have d3 : (w.alloc (.cells #[.slice (some ad) st.length c0, .slice A1 ri.length c1, .slice A2 ca.length c2, .slice (some ae) su.length c3] 27)).cell? ⟨w.heap.size, 3, none⟩ = some (.slice (some ae) su.length c3) := cnew rfl rfl
  replace x3 := cb HB.out x3
  replace z2 := cb HB.out z2
  simp only [Rv.cells] at *
  generalize behB (rd_T85 L.st f) (rd_T85 L.st t) (rd_T99 L.su h) = q at *
  obtain ⟨p, hp⟩ : ∃ p, p = whyF L f t k h := ⟨_, rfl⟩
  rw [← hp] at HE ⊢
  clear hp
  have HD := Aside0.mk (And.intro d0 (And.intro d1 (And.intro d2 d3)))
  by_cases hu : (rd_T50 su h).f2 ≤ 0
  · have HE1 : Aside0 (p = (1, 0)) := ⟨by rw [HE.out, if_pos hu]⟩
    go_enter Try.func42, Try.ntmps42
    go_wp2_with fail
    ((try simp only [Exit.inBlock, Exit.then]); refine bodyPost_ret (results_tmp2 rfl _ _ _) rfl ?_)
    exact ⟨by rw [HE1.out]; rfl, HB.out⟩
  · rw [if_neg hu] at HE
    go_enter Try.func42, Try.ntmps42
    go_wp2_with fail
    refine (CB.out _ HB.out).mono ?_
    rintro e w1 ⟨rfl, hb1⟩
    have d0' := cb hb1 d0
    have d1' := cb hb1 d1
    have d2' := cb hb1 d2
    have d3' := cb hb1 d3
    have x3' := cb hb1 x3
    have HB1 := Aside0.mk (bt HB.out hb1)
    clear hb1 d0 d1 d2 d3 x3 z2 HD
    rcases two_bools q ((rd_T65 st f).f3 == 1) with t1 | ⟨t1, t2⟩ | ⟨t1, t2⟩
    case inr.inr =>
      have HE1 : Aside0 (p = (2, 0)) := ⟨by rw [HE.out, if_pos (by rw [t1, t2]; rfl)]⟩
      subst t1
      go_wp2_with fail
      ((try simp only [Exit.inBlock, Exit.then]); refine bodyPost_ret (results_tmp2 rfl _ _ _) rfl ?_)
      exact ⟨by rw [HE1.out]; rfl, HB1.out⟩
    all_goals
      first
        | (replace HE := Aside0.mk (HE.out.trans (if_neg (by rw [t1, t2]; decide))))
        | (replace HE := Aside0.mk (HE.out.trans (if_neg (by rw [t1]; exact Bool.false_ne_true))))
      subst t1
      go_wp2_with fail
      refine (CW.out _ HB1.out).mono ?_
      rintro e w2 ⟨v0, v1, rfl, hR0, hR1, hb2⟩
      obtain ⟨A0', k0', rfl, hl0, hC0⟩ := Kd.R_reads hR0
      obtain ⟨A1', k1', rfl, hl1, hC1⟩ := Kd.R_reads hR1
      have HB2 := Aside0.mk (bt HB1.out hb2)
      clear hR0 hR1 hb2 d0' d1' d2' d3' x3' CW CB
      have lr0 := hC0.2.1
      have lr1 := hC1.2.1
      by_cases hr : 0 < (ridgesL L f t).length
      · obtain ⟨a0, ea0, g0⟩ := Kd.at_int hC0 0 (by omega) (by omega)
        subst ea0
        have HE2 : Aside0 (p = (3, (ridgesL L f t).headD 0)) := ⟨by rw [HE.out, if_pos hr]⟩
        have HH : Aside0 (rd (ridgesL L f t) 0 = (ridgesL L f t).headD 0) := ⟨by cases ridgesL L f t <;> rfl⟩
        generalize ridgesL L f t = rl at *
        have hr' : (0 : Int) < rl.length := by omega
        clear hC0 hC1
        go_wp2_with fail
        replace g0 : w2.cell? a0 = some (.int .i64 (rd rl 0)) := (show w2.cell? (a0.add (0 : Int).toNat) = _ from g0)
        replace g0 := fun d os => cell_regrown g0 d os
        refine wp_region_quiet_below (by kernel_rfl) (by kernel_rfl) ?_
        repeat (go_big_quiet_step (fail))
        refine wpQuiet_nil ?_
        intro _ hw'
        obtain ⟨⟨dq, osq⟩, hw''⟩ := hw'
        subst hw''
        have HBQ := Aside0.mk (below_regrown w2 dq osq)
        clear g0
        generalize grow (redrawn w2 dq) osq = W3 at *
        go_wp2_with fail
        ((try simp only [Exit.inBlock, Exit.then]); refine bodyPost_ret (results_tmp2 rfl _ _ _) rfl ?_)
        exact ⟨by rw [HE2.out, ← HH.out]; rfl, bt HB2.out HBQ.out⟩
      · have hr2 : ¬ 0 < ((ridgesL L f t).length : Int) := by omega
        replace HE := Aside0.mk (HE.out.trans (if_neg hr))
        have z0 : (ridgesL L f t).length = 0 := by omega
        rw [z0] at *
        clear hr hr2 hC0 lr0
        by_cases hs : 0 < (cloudsL L f t k h).length
        · obtain ⟨a0, ea0, g0⟩ := Kd.at_int hC1 0 (by omega) (by omega)
          subst ea0
          have HE2 : Aside0 (p = (4, (cloudsL L f t k h).headD 0)) := ⟨by rw [HE.out, if_pos hs]⟩
          have HH : Aside0 (rd (cloudsL L f t k h) 0 = (cloudsL L f t k h).headD 0) := ⟨by cases cloudsL L f t k h <;> rfl⟩
          generalize cloudsL L f t k h = rl at *
          have hr' : (0 : Int) < rl.length := by omega
          clear hC1
          go_wp2_with fail
          replace g0 : w2.cell? a0 = some (.int .i64 (rd rl 0)) := (show w2.cell? (a0.add (0 : Int).toNat) = _ from g0)
          replace g0 := fun d os => cell_regrown g0 d os
          refine wp_region_quiet_below (by kernel_rfl) (by kernel_rfl) ?_
          repeat (go_big_quiet_step (fail))
          refine wpQuiet_nil ?_
          intro _ hw'
          obtain ⟨⟨dq, osq⟩, hw''⟩ := hw'
          subst hw''
          have HBQ := Aside0.mk (below_regrown w2 dq osq)
          clear g0
          generalize grow (redrawn w2 dq) osq = W3 at *
          go_wp2_with fail
          ((try simp only [Exit.inBlock, Exit.then]); refine bodyPost_ret (results_tmp2 rfl _ _ _) rfl ?_)
          exact ⟨by rw [HE2.out, ← HH.out]; rfl, bt HB2.out HBQ.out⟩
        · have z1 : (cloudsL L f t k h).length = 0 := by omega
          have HE2 : Aside0 (p = (0, 0)) := ⟨by rw [HE.out, if_neg hs]⟩
          rw [z1] at *
          clear hs hC1 lr1
          go_wp2_with fail
          ((try simp only [Exit.inBlock, Exit.then]); refine bodyPost_ret (results_tmp2 rfl _ _ _) rfl ?_)
          exact ⟨by rw [HE2.out]; rfl, HB2.out⟩
end Go.Proofs.Ytkbdphjnpieceaa.G
