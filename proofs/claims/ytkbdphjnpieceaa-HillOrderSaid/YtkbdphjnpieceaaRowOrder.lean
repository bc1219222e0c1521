/- HillOrder holds: for every input the call returns true, and each argument reads afterwards as it read before; no condition. -/
import Derived.Test.YtkbdphjnpieceaaRows
import Derived.WalkKit
import Derived.ProofKit
import Derived.OpenShut
import Derived.ShutString
import Derived.ChangeOld
import Derived.Below
import Derived.SizedLaws
import Derived.Test.YtkbdphjnpieceaaC1
import Derived.Test.YtkbdphjnpieceaaP5
namespace Go.Proofs.Ytkbdphjnpieceaa.G
open Go.RowKit Go.Proofs.YtkbdphjnpieceaaW.PrintWords Go.Proofs.YtkbdphjnpieceaaW.PrintLast Go.Proofs.YtkbdphjnpieceaaW.PrintMore
set_option linter.unusedVariables false
set_option linter.unusedSimpArgs false
open Go.Sort (grow)
section
variable {α : Type} {R : α → List Value → Prop} {size : Nat} {w : World} {ad : Addr} {n : Nat} {ps : List α}
theorem reads_drop (h : ReadsRow R size w (some ad) n ps) (k : Nat) (hk : k ≤ n) : ReadsRow R size w (some (ad.add (k * size))) (n - k) (ps.drop k) := by
  obtain ⟨h0, h1, h2⟩ := h
  refine ⟨by rw [List.length_drop, h0], by omega, fun hp => ?_⟩
  obtain ⟨ad', e, hc⟩ := h2 (by omega)
  injection e with e
  subst e
  refine ⟨_, rfl, fun j p hj => ?_⟩
  rw [List.getElem?_drop] at hj
  obtain ⟨c, hl, hr, hcc⟩ := hc (k + j) p hj
  refine ⟨c, hl, hr, fun i u hu => ?_⟩
  rw [add_add, ← Nat.add_assoc, ← Nat.add_mul]
  exact hcc i u hu
theorem reads_take (h : ReadsRow R size w (some ad) n ps) (k : Nat) (hk : k ≤ n) : ReadsRow R size w (some ad) k (ps.take k) := by
  obtain ⟨h0, h1, h2⟩ := h
  refine ⟨by rw [List.length_take]; omega, by omega, fun hp => ?_⟩
  obtain ⟨ad', e, hc⟩ := h2 (by omega)
  refine ⟨ad', e, fun j p hj => ?_⟩
  rw [List.getElem?_take] at hj
  split at hj
  · exact hc j p hj
  · cases hj
end
theorem mem_rot {α : Type} (xs : List α) (k : Nat) (x : α) : x ∈ xs.drop k ++ xs.take k ↔ x ∈ xs := by rw [List.mem_append, Or.comm, ← List.mem_append, List.take_append_drop]
theorem len_rot {α : Type} (xs : List α) (k : Nat) : (xs.drop k ++ xs.take k).length = xs.length := by rw [List.length_append, List.length_drop, List.length_take]; omega
/-- The heads of the cases, beside what they lead to. -/
theorem heads {w : World} {A : Option Addr} {n : Nat} {xs : List (List S61)} (h : Kd.C (Kd.slice 61 k61) w A n xs) : ∃ ps : List (List S61 × List Value), ps.map Prod.fst = xs ∧ Kd.C (Kd.raw 1) w A n (ps.map Prod.snd) ∧ ∀ p ∈ ps, (Kd.slice 61 k61).K w p.1 p.2 := by
  obtain ⟨h0, h1, h2⟩ := h
  by_cases hn : 0 < n
  · obtain ⟨ad, e, hc⟩ := h2 hn
    have hf : ∀ j : Nat, ∃ c : List Value, j < n → c.length = 1 ∧ (Kd.slice 61 k61).K w (xs.getD j []) c ∧ ∀ i u, c[i]? = some u → w.cell? (ad.add (j * 1 + i)) = some u := by
      intro j
      by_cases hj : j < n
      · obtain ⟨c, k⟩ := hc j (xs.getD j []) (by rw [List.getD_eq_getElem?_getD, List.getElem?_eq_getElem (by omega)]; rfl)
        exact ⟨c, fun _ => k⟩
      · exact ⟨[], fun h => absurd h hj⟩
    obtain ⟨f, hf⟩ := Classical.axiomOfChoice hf
    refine ⟨(List.range n).map fun j => (xs.getD j [], f j), ?_, ⟨?_, h1, fun _ => ⟨ad, e, fun j p hj => ?_⟩⟩, fun p hp => ?_⟩
    · rw [List.map_map]
      apply List.ext_getElem
      · simp [h0]
      · intro i a b
        simp only [List.getElem_map, List.getElem_range, Function.comp, List.getD_eq_getElem?_getD, List.getElem?_eq_getElem b, Option.getD_some]
    · simp
    · rw [List.map_map, List.getElem?_map] at hj
      obtain ⟨i, hi, rfl⟩ := Option.map_eq_some_iff.1 hj
      obtain ⟨hl, hi⟩ := List.getElem?_eq_some_iff.1 hi
      rw [List.getElem_range] at hi
      subst hi
      rw [List.length_range] at hl
      obtain ⟨q0, q1, q2⟩ := hf j hl
      exact ⟨f j, q0, ⟨rfl, q0, (Kd.slice 61 k61).K_one q1⟩, q2⟩
    · obtain ⟨j, hj, rfl⟩ := List.mem_map.1 hp
      exact (hf j (List.mem_range.1 hj)).2.1
  · have : n = 0 := by omega
    subst this
    obtain rfl : xs = [] := List.eq_nil_of_length_eq_zero h0
    exact ⟨[], rfl, ⟨rfl, h1, fun h => absurd h (by decide)⟩, fun p hp => by cases hp⟩
theorem of_heads {w : World} {A : Option Addr} {n : Nat} {ps : List (List S61 × List Value)} (h : Kd.C (Kd.raw 1) w A n (ps.map Prod.snd)) (hK : ∀ p ∈ ps, (Kd.slice 61 k61).K w p.1 p.2) : Kd.C (Kd.slice 61 k61) w A n (ps.map Prod.fst) := by
  obtain ⟨h0, h1, h2⟩ := h
  refine ⟨by rw [List.length_map] at h0 ⊢; exact h0, h1, fun hn => ?_⟩
  obtain ⟨ad, e, hc⟩ := h2 hn
  refine ⟨ad, e, fun j p hj => ?_⟩
  rw [List.getElem?_map] at hj
  obtain ⟨q, hq, rfl⟩ := Option.map_eq_some_iff.1 hj
  obtain ⟨c, hl, hr, hcc⟩ := hc j q.2 (by rw [List.getElem?_map, hq]; rfl)
  obtain rfl := hr.1
  exact ⟨q.2, hl, hK q (List.mem_of_getElem? hq), hcc⟩
theorem rot_in {X R : Rv} {w w' : World} {ps : List (List S61 × List Value)} {k b c2 : Nat} {A2 : Option Addr} (hp : ps.map Prod.fst = R.ca) (hK : ∀ p ∈ ps, (Kd.slice 61 k61).K w p.1 p.2) (hb : Below w.heap.size w w')
    (h0 : Kd.R k65 65 w' b (fun _ => True) (.slice X.A0 X.st.length X.c0) X.st) (h1 : Kd.R k55 55 w' b (fun _ => True) (.slice X.A1 X.ri.length X.c1) X.ri) (h3 : Kd.R k50 50 w' b (fun _ => True) (.slice X.A3 X.su.length X.c3) X.su)
    (h2 : Kd.R (Kd.raw 1) 59 w' b (fun _ => True) (.slice A2 R.ca.length c2) ((ps.map Prod.snd).drop k ++ (ps.map Prod.snd).take k)) : (Rv.mk X.st X.ri (R.ca.drop k ++ R.ca.take k) X.su X.A0 X.A1 A2 X.A3 X.c0 X.c1 c2 X.c3).In w' := by
  obtain ⟨e2, l2, q2⟩ := Kd.R_reads' h2
  have c3 : Kd.C (Kd.raw 1) w' A2 ((ps.map Prod.snd).drop k ++ (ps.map Prod.snd).take k).length ((ps.drop k ++ ps.take k).map Prod.snd) := by rw [List.map_append, List.map_drop, List.map_take]; exact q2
  have c4 := of_heads c3 (fun p hp' => (Kd.slice 61 k61).K_below hb (hK p ((mem_rot ps k p).1 hp')))
  rw [List.map_append, List.map_drop, List.map_take, hp] at c4
  have e4 := c4.1
  rw [← e4] at c4
  exact ⟨(Kd.R_reads' h0).2.2, (Kd.R_reads' h0).2.1, (Kd.R_reads' h1).2.2, (Kd.R_reads' h1).2.1, c4, by rw [len_rot]; exact l2, (Kd.R_reads' h3).2.2, (Kd.R_reads' h3).2.1⟩
/-- The copy with its ridges and cases in another order. -/
theorem order_law {R X : Rv} {a b : Int} {k : Nat} (hC : R.lv.check = 0) (hQ : R.lv.ask a b 0 0 = 0) (hs : X.st = R.st) (hr : ∀ x, x ∈ X.ri ↔ x ∈ R.ri) (hl : X.ri.length = R.ri.length) (hc : X.ca = R.ca.drop k ++ R.ca.take k) (hu : X.su = R.su) (hF : R.Few) :
    X.Few ∧ (alwaysE X.lv a b = alwaysE R.lv a b ∧ riseE X.lv a b = riseE R.lv a b) := by
  have e0 : X.lv.st = R.lv.st := by show X.st.map cSt = _; rw [hs]; rfl
  have e3 : X.lv.su = R.lv.su := by show X.su.map cSu = _; rw [hu]; rfl
  have m1 : ∀ x, x ∈ X.lv.ri ↔ x ∈ R.lv.ri := fun x => by
    show x ∈ X.ri.map cWl ↔ x ∈ R.ri.map cWl
    rw [List.mem_map, List.mem_map]
    exact ⟨fun ⟨y, h1, h2⟩ => ⟨y, (hr y).1 h1, h2⟩, fun ⟨y, h1, h2⟩ => ⟨y, (hr y).2 h1, h2⟩⟩
  have m2 : ∀ c, c ∈ X.lv.ca ↔ c ∈ R.lv.ca := fun c => by
    show c ∈ X.ca.map (·.map cCl) ↔ c ∈ R.ca.map (·.map cCl)
    rw [hc, List.mem_map, List.mem_map]
    exact ⟨fun ⟨y, h1, h2⟩ => ⟨y, (mem_rot _ _ y).1 h1, h2⟩, fun ⟨y, h1, h2⟩ => ⟨y, (mem_rot _ _ y).2 h1, h2⟩⟩
  have hcl : X.ca.length = R.ca.length := by rw [hc, len_rot]
  have hX : X.lv.check = 0 := by
    show checkF X.lv.st X.lv.ri X.lv.ca X.lv.su = 0
    rw [e0, e3]
    refine check_sub hC ?_ (fun x hx => ridge_ok hC x ((m1 x).1 hx)) (by rw [lv_len2, lv_len2, hcl]) (fun c hx => case_ok hC c ((m2 c).1 hx))
    rw [lv_len1, hl, ← lv_len1]
    have := (small_of hC).2.1
    omega
  refine ⟨⟨by rw [hs]; exact hF.s, by rw [hl]; exact hF.r, by rw [hu]; exact hF.u, by rw [hcl]; exact hF.c, fun j hj => ?_⟩, order_x e0 e3 m1 m2 hX hC ?_ hQ⟩
  · have hm : X.ca.getD j [] ∈ R.ca := by
      have h1 : X.ca.getD j [] ∈ X.ca := by rw [List.getD_eq_getElem?_getD, List.getElem?_eq_getElem hj]; exact List.getElem_mem _
      rw [hc] at h1
      rw [hc]
      exact (mem_rot _ _ _).1 h1
    have := cases_few hC _ hm
    omega
  · rw [ask_len (L := R.lv) (M := X.lv) (by rw [lv_len0, lv_len0, hs]) (by rw [lv_len2, lv_len2, hcl]) (by rw [lv_len3, lv_len3, hu])]
    exact hQ
def order.T8 : Bool × List (List Nat × List Nat) := (true, [([], []), ([], []), ([1], [1]), ([], []), ([2, 3], [2, 3]), ([0, 4], [0, 4]), ([], []), ([6], [6]), ([], []), ([7, 8], [7, 8]), ([5, 9, 5], [5, 9]), ([0, 1, 2, 3, 4, 5, 6, 7, 8, 9, 10], []), ([11, 10, 10, 0, 1, 2, 3, 4, 5, 6, 7, 8, 9, 10], [10, 11])])
def order.B8 : List Nat := [0, 0, 2, 0, 14, 31, 0, 64, 0, 448, 1023, 2047, 4095]
theorem order.tab8 : rtab .any (opsOf Try.f11 8) = order.T8 := by kernel_rfl
theorem order.bits8 : waitsOk order.T8.2 order.B8 = true := by kernel_rfl
def order.T10 : Bool × List (List Nat × List Nat) := (true, [([], []), ([], []), ([1], [1]), ([], []), ([2, 3], [2, 3]), ([0, 4], [0, 4]), ([], []), ([6], [6]), ([], []), ([7, 8], [7, 8]), ([5, 9, 5], [5, 9]), ([0, 1, 2, 3, 4, 5, 6, 7, 8, 9, 10], []), ([11, 10, 10, 0, 1, 2, 3, 4, 5, 6, 7, 8, 9, 10], [10, 11])])
def order.B10 : List Nat := [0, 0, 2, 0, 14, 31, 0, 64, 0, 448, 1023, 2047, 4095]
theorem order.tab10 : rtab .any (opsOf Try.f11 10) = order.T10 := by kernel_rfl
theorem order.bits10 : waitsOk order.T10.2 order.B10 = true := by kernel_rfl
set_option maxHeartbeats 8000000 in
set_option maxRecDepth 100000 in
theorem hillOrder_c (a0 : Rv) (a1 : Int) (a2 : Int) (w : World) (h0 : a0.In w) (h1 : (Lit.int .u8 a1).wf = true) (h2 : (Lit.int .u8 a2).wf = true) :
    Calls Try.prog 11 #[.agg a0.cells, .int .u8 a1, .int .u8 a2] w fun e w' => e = .returned (.bool true) ∧ Below w.heap.size w w' := by
  have HI := Aside0.mk h0
  have HB := Aside0.mk (b1 w (.cells a0.cells 27))
  have HBX := Aside0.mk (blk_new w (.cells a0.cells 27))
  have l0 := h0.r0.2.1
  have l1 := h0.r1.2.1
  have l2 := h0.r2.2.1
  have l3 := h0.r3.2.1
  clear h0
  simp only [Rv.cells] at *
  by_cases hth : a0.rdy = true
  rotate_left
  · have HT : Aside0 (a0.rdy = false) := ⟨by simpa using hth⟩
    clear hth
    go_enter Try.func11, Try.ntmps11
    have d0 := (blk_cell HBX.out 0).trans rfl
    have d1 := (blk_cell HBX.out 1).trans rfl
    have d2 := (blk_cell HBX.out 2).trans rfl
    have d3 := (blk_cell HBX.out 3).trans rfl
    go_wp2_with fail
    refine (ready_c a0 _ (HI.out.below HB.out)).mono ?_
    rintro e w1_ ⟨rfl, hb_⟩
    replace HB := Aside0.mk (bt HB.out hb_)
    replace HBX := Aside0.mk (blk_below HBX.out hb_)
    clear d0 d1 d2 d3
    clear hb_
    have d0 := (blk_cell HBX.out 0).trans rfl
    have d1 := (blk_cell HBX.out 1).trans rfl
    have d2 := (blk_cell HBX.out 2).trans rfl
    have d3 := (blk_cell HBX.out 3).trans rfl
    rw [HT.out]
    go_wp2_with fail
    refine (awake_c _).mono ?_
    rintro e w2_ ⟨rfl, hb_⟩
    replace HB := Aside0.mk (bt HB.out hb_)
    replace HBX := Aside0.mk (blk_below HBX.out hb_)
    clear d0 d1 d2 d3
    clear hb_
    go_wp2_with fail
    go_ret
    exact ⟨ret_bool rfl, HB.out⟩
  have HT := Aside0.mk hth
  have HF := Aside0.mk (rdy_of hth).1
  have HC := Aside0.mk (rdy_of hth).2.1
  have HLEN := Aside0.mk (rdy_of hth).2.2
  clear hth
  obtain ⟨hs2, hs6, hr6, hc1, hc4, hu1, hu12⟩ := HLEN.out
  go_enter Try.func11, Try.ntmps11
  have d0 := (blk_cell HBX.out 0).trans rfl
  have d1 := (blk_cell HBX.out 1).trans rfl
  have d2 := (blk_cell HBX.out 2).trans rfl
  have d3 := (blk_cell HBX.out 3).trans rfl
  go_wp2_with fail
  refine (ready_c a0 _ (HI.out.below HB.out)).mono ?_
  rintro e w3_ ⟨rfl, hb_⟩
  replace HB := Aside0.mk (bt HB.out hb_)
  replace HBX := Aside0.mk (blk_below HBX.out hb_)
  clear d0 d1 d2 d3
  clear hb_
  have d0 := (blk_cell HBX.out 0).trans rfl
  have d1 := (blk_cell HBX.out 1).trans rfl
  have d2 := (blk_cell HBX.out 2).trans rfl
  have d3 := (blk_cell HBX.out 3).trans rfl
  rw [HT.out]
  go_wp2_with fail
  have HCC := Aside0.mk (cases_few HC.out)
  have q2 := u8_bd h2
  refine (pair_c a0 a1 _ hs2 (by omega) h1).mono ?_
  rintro e w4_ ⟨rfl, hb_⟩
  replace HB := Aside0.mk (bt HB.out hb_)
  replace HBX := Aside0.mk (blk_below HBX.out hb_)
  clear d0 d1 d2 d3
  clear hb_
  have d0 := (blk_cell HBX.out 0).trans rfl
  have d1 := (blk_cell HBX.out 1).trans rfl
  have d2 := (blk_cell HBX.out 2).trans rfl
  have d3 := (blk_cell HBX.out 3).trans rfl
  have HP := Aside0.mk (pair_bd (n := (a0.st.length : Int)) (q := a1) (by omega) (u8_bd h1).1)
  generalize pairA a0.st.length a1 = pa at *
  generalize pairB a0.st.length a1 = pb at *
  go_wp2_with fail
  refine (copied_v a0 _ (HI.out.below HB.out) (by omega) (by omega) (by omega) HCC.out (by omega)).mono ?_
  rintro e w5_ ⟨B0, e0_, B1, e1_, B2, e2_, B3, e3_, rfl, hOw, hb_⟩
  have HOW := Aside0.mk (Own.lower hOw HB.out.size)
  replace HB := Aside0.mk (bt HB.out hb_)
  replace HBX := Aside0.mk (blk_below HBX.out hb_)
  clear d0 d1 d2 d3
  clear hOw hb_
  go_upto_region 5 with (first | ((with_reducible refine gate_dst (N := 9) rfl ?_); refine box_event ?hg (N := 9) ?hd (cs := #[.slice none 0 0, .slice none 0 0, .slice none 0 0, .slice none 0 0]) (t := 27) ?hr ?_; (case hd => rfl); (case hg => rfl); (case hr => first | (go_simp; done) | (go_simp; rfl)); intro gx hg_ w6_ hbox_ hb_; have HGX := Aside0.mk (show w.heap.size < gx from by rw [hg_]; exact blk_lt HBX.out); replace HB := Aside0.mk (bt HB.out hb_); replace HBX := Aside0.mk (blk_below HBX.out hb_); replace HOW := Aside0.mk (HOW.out.below hb_); have HBZ := Aside0.mk hbox_; clear hbox_ hb_ hg_) | ((with_reducible refine gate_st (p := 9) rfl ?_); have c0 := (blk_cell (HBZ.out) 0).trans rfl; have f0 := blk_frozen (HBZ.out) 0; have c1 := (blk_cell (blk_set (HBZ.out) 0 (.slice B0 a0.st.length e0_)) 1).trans rfl; have f1 := blk_frozen (blk_set (HBZ.out) 0 (.slice B0 a0.st.length e0_)) 1; have c2 := (blk_cell (blk_set (blk_set (HBZ.out) 0 (.slice B0 a0.st.length e0_)) 1 (.slice B1 a0.ri.length e1_)) 2).trans rfl; have f2 := blk_frozen (blk_set (blk_set (HBZ.out) 0 (.slice B0 a0.st.length e0_)) 1 (.slice B1 a0.ri.length e1_)) 2; have c3 := (blk_cell (blk_set (blk_set (blk_set (HBZ.out) 0 (.slice B0 a0.st.length e0_)) 1 (.slice B1 a0.ri.length e1_)) 2 (.slice B2 a0.ca.length e2_)) 3).trans rfl; have f3 := blk_frozen (blk_set (blk_set (blk_set (HBZ.out) 0 (.slice B0 a0.st.length e0_)) 1 (.slice B1 a0.ri.length e1_)) 2 (.slice B2 a0.ca.length e2_)) 3; refine put_ev (p := 9) (w1 := ((((w6_.setCell ⟨gx, 0, none⟩ (.slice B0 a0.st.length e0_)).setCell ⟨gx, 1, none⟩ (.slice B1 a0.ri.length e1_)).setCell ⟨gx, 2, none⟩ (.slice B2 a0.ca.length e2_)).setCell ⟨gx, 3, none⟩ (.slice B3 a0.su.length e3_))) (fun x_ => Below w.heap.size w x_ ∧ x_.heap[w.heap.size]? = some (.cells #[.slice a0.A0 a0.st.length a0.c0, .slice a0.A1 a0.ri.length a0.c1, .slice a0.A2 a0.ca.length a0.c2, .slice a0.A3 a0.su.length a0.c3] 27 (0, 0)) ∧ Cp ⟨a0.st, a0.ri, a0.ca, a0.su, B0, B1, B2, B3, e0_, e1_, e2_, e3_⟩ gx w.heap.size x_) rfl rfl rfl ?hr ?hF ?_; (case hr => first | (go_simp; done) | (go_simp; rfl)); (case hF => exact ⟨below_set (below_set (below_set (below_set (HB.out) (Nat.le_of_lt HGX.out)) (Nat.le_of_lt HGX.out)) (Nat.le_of_lt HGX.out)) (Nat.le_of_lt HGX.out), blk_far (p := ⟨gx, 3, none⟩) (blk_far (p := ⟨gx, 2, none⟩) (blk_far (p := ⟨gx, 1, none⟩) (blk_far (p := ⟨gx, 0, none⟩) (HBX.out) (show _ ≠ gx from Nat.ne_of_lt HGX.out) _) (show _ ≠ gx from Nat.ne_of_lt HGX.out) _) (show _ ≠ gx from Nat.ne_of_lt HGX.out) _) (show _ ≠ gx from Nat.ne_of_lt HGX.out) _, ⟨blk_set (blk_set (blk_set (blk_set (HBZ.out) 0 (.slice B0 a0.st.length e0_)) 1 (.slice B1 a0.ri.length e1_)) 2 (.slice B2 a0.ca.length e2_)) 3 (.slice B3 a0.su.length e3_), Own.set27 (Own.set27 (Own.set27 (Own.set27 (HOW.out) (HBZ.out) 0 _) (blk_set (HBZ.out) 0 (.slice B0 a0.st.length e0_)) 1 _) (blk_set (blk_set (HBZ.out) 0 (.slice B0 a0.st.length e0_)) 1 (.slice B1 a0.ri.length e1_)) 2 _) (blk_set (blk_set (blk_set (HBZ.out) 0 (.slice B0 a0.st.length e0_)) 1 (.slice B1 a0.ri.length e1_)) 2 (.slice B2 a0.ca.length e2_)) 3 _, Nat.le_of_lt HGX.out⟩⟩); clear c0 f0 c1 f1 c2 f2 c3 f3 HOW HBZ HB HBX; rintro w7_ ⟨k0_, k1_, k2_⟩; have HB := Aside0.mk k0_; have HBX := Aside0.mk k1_; have CX := Aside0.mk k2_; clear k0_ k1_ k2_))
  obtain ⟨X, hX⟩ : ∃ X : Rv, X = ⟨a0.st, a0.ri, a0.ca, a0.su, B0, B1, B2, B3, e0_, e1_, e2_, e3_⟩ := ⟨_, rfl⟩
  rw [← hX] at CX
  have HXE := Aside0.mk (show X.st = a0.st ∧ X.ri = a0.ri ∧ X.ca = a0.ca ∧ X.su = a0.su from by rw [hX]; exact ⟨rfl, rfl, rfl, rfl⟩)
  clear hX
  have d0 := (blk_cell HBX.out 0).trans rfl
  have d1 := (blk_cell HBX.out 1).trans rfl
  have d2 := (blk_cell HBX.out 2).trans rfl
  have d3 := (blk_cell HBX.out 3).trans rfl
  have x0_ := CX.out.x0
  have x1_ := CX.out.x1
  have x2_ := CX.out.x2
  have x3_ := CX.out.x3
  go_upto_if 37 with (fail)
  go_cut [] (fun wx => ∃ X1 : Rv, Aside0 (X1.st = a0.st ∧ (∀ x, x ∈ X1.ri ↔ x ∈ a0.ri) ∧ X1.ri.length = a0.ri.length ∧ X1.ca = a0.ca ∧ X1.su = a0.su) ∧ Below w.heap.size w wx ∧ wx.heap[w.heap.size]? = some (.cells #[.slice a0.A0 a0.st.length a0.c0, .slice a0.A1 a0.ri.length a0.c1, .slice a0.A2 a0.ca.length a0.c2, .slice a0.A3 a0.su.length a0.c3] 27 (0, 0)) ∧ Cp X1 gx w.heap.size wx)
  case first =>
    by_cases hn : 0 < (a0.ri.length : Int)
    · go_wp2_with fail
      have HK1 := Aside0.mk (mod_bd (q := a2) (n := a0.ri.length) (by omega))
      generalize a2 % (a0.ri.length : Int) = kr at *
      have hr0 := HK1.out.1
      have hr1 := HK1.out.2
      have hcap := HI.out.h1
      obtain ⟨ad, ea, _⟩ := (Kd.C_below HI.out.r1 HB.out).2.2 (by omega)
      have HC1 := Aside0.mk (Kd.C_below HI.out.r1 HB.out)
      rw [ea] at HC1 HBX
      have HEA := Aside0.mk ea
      clear ea
      refine start_ (n := 13) (S := fun w' => True) (ds := []) #[false, false, false, false, false, false, false, false, false, false, false, false, false] (by kernel_rfl) rfl rfl trivial (fun hHeld => ?_)
      refine with_tabW order.tab8 order.bits8 (fun HT_ HW_ => ?_)
      have HBW := Aside0.mk (below_drew (Below.refl w7_.heap.size w7_))
      generalize w7_.drew = wd_ at *
      refine inv_at [0, 1, 2, 3, 4, 5, 6, 7, 8, 9, 10, 11, 12] (fun a0_ b a w' => ∃ (v42_ : Value) (v47_ : Value) (v52_ : Value), a = putSel a0_ b [(0, 42, v42_), (1, 43, .pointer (some ⟨w.heap.size, 1, none⟩)), (2, 44, .slice (some ad) a0.ri.length a0.c1), (3, 45, .int .i64 kr), (4, 46, .slice (some (ad.add (kr.toNat * 6))) (a0.ri.length - kr.toNat) (a0.c1 - kr.toNat)), (5, 47, v47_), (6, 48, .pointer (some ⟨w.heap.size, 1, none⟩)), (7, 49, .slice (some ad) a0.ri.length a0.c1), (8, 50, .int .i64 kr), (9, 51, .slice (some ad) kr.toNat a0.c1), (10, 52, v52_), (11, 53, .pointer (some ⟨gx, 1, none⟩))] ∧ (b 12 = false → Below w7_.heap.size w7_ w') ∧ (b 0 = true → b 5 = false → Kd.R k55 55 w' w7_.heap.size (fun _ => True) (v42_) ([])) ∧ (b 5 = true → b 10 = false → Kd.R k55 55 w' w7_.heap.size (fun _ => True) (v47_) (a0.ri.drop kr.toNat)) ∧ (b 10 = true → b 12 = false → Kd.R k55 55 w' w7_.heap.size (fun _ => True) (v52_) (a0.ri.drop kr.toNat ++ a0.ri.take kr.toNat)) ∧ (b 12 = true → ∃ X1 : Rv, Aside0 (X1.st = a0.st ∧ (∀ x, x ∈ X1.ri ↔ x ∈ a0.ri) ∧ X1.ri.length = a0.ri.length ∧ X1.ca = a0.ca ∧ X1.su = a0.su) ∧ Below w.heap.size w w' ∧ w'.heap[w.heap.size]? = some (.cells #[.slice a0.A0 a0.st.length a0.c0, .slice a0.A1 a0.ri.length a0.c1, .slice a0.A2 a0.ca.length a0.c2, .slice a0.A3 a0.su.length a0.c3] 27 (0, 0)) ∧ Cp X1 gx w.heap.size w')) HT_.out HW_.out (by kernel_rfl) (by kernel_rfl) ?_ ?_ ?_
      · exact ⟨.bool false, .bool false, .bool false, by simp only [putSel, Bool.false_eq_true, if_false], fun _ => HBW.out, fun h_ => absurd h_ (by decide), fun h_ => absurd h_ (by decide), fun h_ => absurd h_ (by decide), fun h_ => absurd h_ (by decide)⟩
      · skip
        clear HBW
        refine steps_cons ?_ ?_
        · rintro b a w' ⟨v42_, v47_, v52_, ha, Q_HBW, Q_RA, Q_RB, Q_RC, Q_END⟩ hb_ hon hoff
          refine ⟨_, rfl, fun K hK => ?_⟩
          replace ha := Aside0.mk ha
          have HBW := Aside0.mk (Q_HBW (hoff 12 (by kernel_rfl)))
          refine Kd.R_lit_step k55 w7_.heap.size 55 (by rfl) (N := 42) rfl (xs := ([] : List S55)) (inner := []) (ok := fun _ => True) (okp := fun _ => True) (by first | (go_simp; done) | (go_simp; rfl)) (Reps.none _ _) (fun _ hk => hk) trivial HBW.out HBW.out.size (by simp) ?_
          intro v_ w2 hR_ hB_ hg_ hat_
          refine hK.out _ _ ⟨v_, v47_, v52_, (by rw [ha.out]; exact putSel_upk 0 hb_ rfl rfl rfl), fun _ => hB_, fun _ _ => hR_, fun h0_ _ => absurd ((hoff 5 (by kernel_rfl)).symm.trans h0_) (by decide), fun h0_ _ => absurd ((hoff 10 (by kernel_rfl)).symm.trans h0_) (by decide), fun h0_ => absurd ((hoff 12 (by kernel_rfl)).symm.trans h0_) (by decide)⟩
        refine steps_cons ?_ ?_
        · rintro b a w' ⟨v42_, v47_, v52_, ha, Q_HBW, Q_RA, Q_RB, Q_RC, Q_END⟩ hb_ hon hoff
          refine ⟨_, rfl, fun K hK => ?_⟩
          have e3 : a.tmps[3]? = some (.pointer (some ⟨w.heap.size, 0, none⟩)) := by rw [ha]; exact (putSel_off rfl).trans rfl
          replace ha := Aside0.mk ha
          have HBW := Aside0.mk (Q_HBW (hoff 12 (by kernel_rfl)))
          refine value_ (w1 := w') (v := .pointer (some ⟨w.heap.size, 1, none⟩)) (by rfl) rfl ?_ ?_
          · go_simp
            (try simp only [i64_w])
            try rfl
          refine hK.out _ _ ⟨v42_, v47_, v52_, (by rw [ha.out]; exact putSel_upk 1 hb_ rfl rfl rfl), Q_HBW, Q_RA, fun h0_ _ => absurd ((hoff 5 (by kernel_rfl)).symm.trans h0_) (by decide), fun h0_ _ => absurd ((hoff 10 (by kernel_rfl)).symm.trans h0_) (by decide), fun h0_ => absurd ((hoff 12 (by kernel_rfl)).symm.trans h0_) (by decide)⟩
        refine steps_cons ?_ ?_
        · rintro b a w' ⟨v42_, v47_, v52_, ha, Q_HBW, Q_RA, Q_RB, Q_RC, Q_END⟩ hb_ hon hoff
          refine ⟨_, rfl, fun K hK => ?_⟩
          have e43 : a.tmps[43]? = some (.pointer (some ⟨w.heap.size, 1, none⟩)) := by rw [ha]; exact putSel_on (e := (1, 43, .pointer (some ⟨w.heap.size, 1, none⟩))) 1 rfl rfl (hon 1 (by kernel_rfl)) rfl
          replace ha := Aside0.mk ha
          have HBW := Aside0.mk (Q_HBW (hoff 12 (by kernel_rfl)))
          have k0_ := (blk_cell (blk_below HBX.out HBW.out) 1).trans rfl
          refine value_ (w1 := w') (v := .slice (some ad) a0.ri.length a0.c1) (by rfl) rfl ?_ ?_
          · go_simp
            (try simp only [i64_w])
            try rfl
          refine hK.out _ _ ⟨v42_, v47_, v52_, (by rw [ha.out]; exact putSel_upk 2 hb_ rfl rfl rfl), Q_HBW, Q_RA, fun h0_ _ => absurd ((hoff 5 (by kernel_rfl)).symm.trans h0_) (by decide), fun h0_ _ => absurd ((hoff 10 (by kernel_rfl)).symm.trans h0_) (by decide), fun h0_ => absurd ((hoff 12 (by kernel_rfl)).symm.trans h0_) (by decide)⟩
        refine steps_cons ?_ ?_
        · rintro b a w' ⟨v42_, v47_, v52_, ha, Q_HBW, Q_RA, Q_RB, Q_RC, Q_END⟩ hb_ hon hoff
          refine ⟨_, rfl, fun K hK => ?_⟩
          have e11 : a.tmps[11]? = some (.int .i64 kr) := by rw [ha]; exact (putSel_off rfl).trans rfl
          replace ha := Aside0.mk ha
          have HBW := Aside0.mk (Q_HBW (hoff 12 (by kernel_rfl)))
          refine value_ (w1 := w') (v := .int .i64 kr) (by rfl) rfl ?_ ?_
          · go_simp
            (try simp only [i64_w])
            try rfl
          refine hK.out _ _ ⟨v42_, v47_, v52_, (by rw [ha.out]; exact putSel_upk 3 hb_ rfl rfl rfl), Q_HBW, Q_RA, fun h0_ _ => absurd ((hoff 5 (by kernel_rfl)).symm.trans h0_) (by decide), fun h0_ _ => absurd ((hoff 10 (by kernel_rfl)).symm.trans h0_) (by decide), fun h0_ => absurd ((hoff 12 (by kernel_rfl)).symm.trans h0_) (by decide)⟩
        refine steps_cons ?_ ?_
        · rintro b a w' ⟨v42_, v47_, v52_, ha, Q_HBW, Q_RA, Q_RB, Q_RC, Q_END⟩ hb_ hon hoff
          refine ⟨_, rfl, fun K hK => ?_⟩
          have e44 : a.tmps[44]? = some (.slice (some ad) a0.ri.length a0.c1) := by rw [ha]; exact putSel_on (e := (2, 44, .slice (some ad) a0.ri.length a0.c1)) 2 rfl rfl (hon 2 (by kernel_rfl)) rfl
          have e45 : a.tmps[45]? = some (.int .i64 kr) := by rw [ha]; exact putSel_on (e := (3, 45, .int .i64 kr)) 3 rfl rfl (hon 3 (by kernel_rfl)) rfl
          replace ha := Aside0.mk ha
          have HBW := Aside0.mk (Q_HBW (hoff 12 (by kernel_rfl)))
          have k1_ : (0 : Int) ≤ kr := hr0
          have k2_ := hr1
          have k3_ : kr ≤ (a0.ri.length : Int) := Int.le_of_lt hr1
          have k4_ : kr ≤ (a0.c1 : Int) := by omega
          have k5_ : ¬ a0.c1 = kr.toNat := by omega
          have k6_ : (a0.ri.length : Int) ≤ (a0.c1 : Int) := by omega
          refine value_ (w1 := w') (v := .slice (some (ad.add (kr.toNat * 6))) (a0.ri.length - kr.toNat) (a0.c1 - kr.toNat)) (by rfl) rfl ?_ ?_
          · go_simp
            (try simp only [i64_w])
            try rfl
          refine hK.out _ _ ⟨v42_, v47_, v52_, (by rw [ha.out]; exact putSel_upk 4 hb_ rfl rfl rfl), Q_HBW, Q_RA, fun h0_ _ => absurd ((hoff 5 (by kernel_rfl)).symm.trans h0_) (by decide), fun h0_ _ => absurd ((hoff 10 (by kernel_rfl)).symm.trans h0_) (by decide), fun h0_ => absurd ((hoff 12 (by kernel_rfl)).symm.trans h0_) (by decide)⟩
        refine steps_cons ?_ ?_
        · rintro b a w' ⟨v42_, v47_, v52_, ha, Q_HBW, Q_RA, Q_RB, Q_RC, Q_END⟩ hb_ hon hoff
          refine ⟨_, rfl, fun K hK => ?_⟩
          have e42 : a.tmps[42]? = some (v42_) := by rw [ha]; exact putSel_on (e := (0, 42, v42_)) 0 rfl rfl (hon 0 (by kernel_rfl)) rfl
          have e46 : a.tmps[46]? = some (.slice (some (ad.add (kr.toNat * 6))) (a0.ri.length - kr.toNat) (a0.c1 - kr.toNat)) := by rw [ha]; exact putSel_on (e := (4, 46, .slice (some (ad.add (kr.toNat * 6))) (a0.ri.length - kr.toNat) (a0.c1 - kr.toNat))) 4 rfl rfl (hon 4 (by kernel_rfl)) rfl
          replace ha := Aside0.mk ha
          have HBW := Aside0.mk (Q_HBW (hoff 12 (by kernel_rfl)))
          have RA := Aside0.mk (Q_RA (hon 0 (by kernel_rfl)) hb_)
          refine Kd.R_append_rows_step k55 (w0 := w7_) w7_.heap.size (by rfl) (.tmp 42) (.tmp 46) 23 55 (.agg #[(.int .i64 0), (.int .i64 0), (.int .i64 0), (.int .i64 0), (.int .i64 0), (.int .i64 0)]) 48 rfl Try.underlying23 info55 rfl (by decide) (by decide) v42_ ([]) _ (some (ad.add (kr.toNat * 6))) (a0.ri.length - kr.toNat) (a0.c1 - kr.toNat) (fun _ => True) (fun _ => False) (by simp only [Act.eval, Array.getD_eq_getD_getElem?, Option.getD_some, e42]) (by simp only [Act.eval, Array.getD_eq_getD_getElem?, Option.getD_some, e46]) RA.out (reads_drop (Kd.C_below HC1.out HBW.out) kr.toNat (by omega)) (fun x cs h => by rw [k55_open h]; exact k55_mkM _ _ _ x) (fun _ h => h.elim) (fun _ _ => trivial) HBW.out HBW.out.size (by simp only [List.length_nil, List.length_drop]; omega) ?_
          intro v_ w2 hR_ hB_ hg_ hat_
          refine hK.out _ _ ⟨v42_, v_, v52_, (by rw [ha.out]; exact putSel_upk 5 hb_ rfl rfl rfl), fun _ => hB_, fun _ h1_ => absurd ((up_self b 5).symm.trans h1_) (by decide), fun _ _ => hR_, fun h0_ _ => absurd ((hoff 10 (by kernel_rfl)).symm.trans h0_) (by decide), fun h0_ => absurd ((hoff 12 (by kernel_rfl)).symm.trans h0_) (by decide)⟩
        refine steps_cons ?_ ?_
        · rintro b a w' ⟨v42_, v47_, v52_, ha, Q_HBW, Q_RA, Q_RB, Q_RC, Q_END⟩ hb_ hon hoff
          refine ⟨_, rfl, fun K hK => ?_⟩
          have e3 : a.tmps[3]? = some (.pointer (some ⟨w.heap.size, 0, none⟩)) := by rw [ha]; exact (putSel_off rfl).trans rfl
          replace ha := Aside0.mk ha
          have HBW := Aside0.mk (Q_HBW (hoff 12 (by kernel_rfl)))
          refine value_ (w1 := w') (v := .pointer (some ⟨w.heap.size, 1, none⟩)) (by rfl) rfl ?_ ?_
          · go_simp
            (try simp only [i64_w])
            try rfl
          refine hK.out _ _ ⟨v42_, v47_, v52_, (by rw [ha.out]; exact putSel_upk 6 hb_ rfl rfl rfl), Q_HBW, Q_RA, Q_RB, fun h0_ _ => absurd ((hoff 10 (by kernel_rfl)).symm.trans h0_) (by decide), fun h0_ => absurd ((hoff 12 (by kernel_rfl)).symm.trans h0_) (by decide)⟩
        refine steps_cons ?_ ?_
        · rintro b a w' ⟨v42_, v47_, v52_, ha, Q_HBW, Q_RA, Q_RB, Q_RC, Q_END⟩ hb_ hon hoff
          refine ⟨_, rfl, fun K hK => ?_⟩
          have e48 : a.tmps[48]? = some (.pointer (some ⟨w.heap.size, 1, none⟩)) := by rw [ha]; exact putSel_on (e := (6, 48, .pointer (some ⟨w.heap.size, 1, none⟩))) 6 rfl rfl (hon 6 (by kernel_rfl)) rfl
          replace ha := Aside0.mk ha
          have HBW := Aside0.mk (Q_HBW (hoff 12 (by kernel_rfl)))
          have k0_ := (blk_cell (blk_below HBX.out HBW.out) 1).trans rfl
          refine value_ (w1 := w') (v := .slice (some ad) a0.ri.length a0.c1) (by rfl) rfl ?_ ?_
          · go_simp
            (try simp only [i64_w])
            try rfl
          refine hK.out _ _ ⟨v42_, v47_, v52_, (by rw [ha.out]; exact putSel_upk 7 hb_ rfl rfl rfl), Q_HBW, Q_RA, Q_RB, fun h0_ _ => absurd ((hoff 10 (by kernel_rfl)).symm.trans h0_) (by decide), fun h0_ => absurd ((hoff 12 (by kernel_rfl)).symm.trans h0_) (by decide)⟩
        refine steps_cons ?_ ?_
        · rintro b a w' ⟨v42_, v47_, v52_, ha, Q_HBW, Q_RA, Q_RB, Q_RC, Q_END⟩ hb_ hon hoff
          refine ⟨_, rfl, fun K hK => ?_⟩
          have e11 : a.tmps[11]? = some (.int .i64 kr) := by rw [ha]; exact (putSel_off rfl).trans rfl
          replace ha := Aside0.mk ha
          have HBW := Aside0.mk (Q_HBW (hoff 12 (by kernel_rfl)))
          refine value_ (w1 := w') (v := .int .i64 kr) (by rfl) rfl ?_ ?_
          · go_simp
            (try simp only [i64_w])
            try rfl
          refine hK.out _ _ ⟨v42_, v47_, v52_, (by rw [ha.out]; exact putSel_upk 8 hb_ rfl rfl rfl), Q_HBW, Q_RA, Q_RB, fun h0_ _ => absurd ((hoff 10 (by kernel_rfl)).symm.trans h0_) (by decide), fun h0_ => absurd ((hoff 12 (by kernel_rfl)).symm.trans h0_) (by decide)⟩
        refine steps_cons ?_ ?_
        · rintro b a w' ⟨v42_, v47_, v52_, ha, Q_HBW, Q_RA, Q_RB, Q_RC, Q_END⟩ hb_ hon hoff
          refine ⟨_, rfl, fun K hK => ?_⟩
          have e49 : a.tmps[49]? = some (.slice (some ad) a0.ri.length a0.c1) := by rw [ha]; exact putSel_on (e := (7, 49, .slice (some ad) a0.ri.length a0.c1)) 7 rfl rfl (hon 7 (by kernel_rfl)) rfl
          have e50 : a.tmps[50]? = some (.int .i64 kr) := by rw [ha]; exact putSel_on (e := (8, 50, .int .i64 kr)) 8 rfl rfl (hon 8 (by kernel_rfl)) rfl
          replace ha := Aside0.mk ha
          have HBW := Aside0.mk (Q_HBW (hoff 12 (by kernel_rfl)))
          have k1_ : (0 : Int) ≤ kr := hr0
          have k2_ := hr1
          have k3_ : kr ≤ (a0.ri.length : Int) := Int.le_of_lt hr1
          have k4_ : kr ≤ (a0.c1 : Int) := by omega
          have k5_ : ¬ a0.c1 = kr.toNat := by omega
          have k6_ : (a0.ri.length : Int) ≤ (a0.c1 : Int) := by omega
          refine value_ (w1 := w') (v := .slice (some ad) kr.toNat a0.c1) (by rfl) rfl ?_ ?_
          · go_simp
            (try simp only [i64_w])
            try rfl
          refine hK.out _ _ ⟨v42_, v47_, v52_, (by rw [ha.out]; exact putSel_upk 9 hb_ rfl rfl rfl), Q_HBW, Q_RA, Q_RB, fun h0_ _ => absurd ((hoff 10 (by kernel_rfl)).symm.trans h0_) (by decide), fun h0_ => absurd ((hoff 12 (by kernel_rfl)).symm.trans h0_) (by decide)⟩
        refine steps_cons ?_ ?_
        · rintro b a w' ⟨v42_, v47_, v52_, ha, Q_HBW, Q_RA, Q_RB, Q_RC, Q_END⟩ hb_ hon hoff
          refine ⟨_, rfl, fun K hK => ?_⟩
          have e47 : a.tmps[47]? = some (v47_) := by rw [ha]; exact putSel_on (e := (5, 47, v47_)) 5 rfl rfl (hon 5 (by kernel_rfl)) rfl
          have e51 : a.tmps[51]? = some (.slice (some ad) kr.toNat a0.c1) := by rw [ha]; exact putSel_on (e := (9, 51, .slice (some ad) kr.toNat a0.c1)) 9 rfl rfl (hon 9 (by kernel_rfl)) rfl
          replace ha := Aside0.mk ha
          have HBW := Aside0.mk (Q_HBW (hoff 12 (by kernel_rfl)))
          have RB := Aside0.mk (Q_RB (hon 5 (by kernel_rfl)) hb_)
          refine Kd.R_append_rows_step k55 (w0 := w7_) w7_.heap.size (by rfl) (.tmp 47) (.tmp 51) 23 55 (.agg #[(.int .i64 0), (.int .i64 0), (.int .i64 0), (.int .i64 0), (.int .i64 0), (.int .i64 0)]) 48 rfl Try.underlying23 info55 rfl (by decide) (by decide) v47_ (a0.ri.drop kr.toNat) _ (some ad) (kr.toNat) (a0.c1) (fun _ => True) (fun _ => False) (by simp only [Act.eval, Array.getD_eq_getD_getElem?, Option.getD_some, e47]) (by simp only [Act.eval, Array.getD_eq_getD_getElem?, Option.getD_some, e51]) RB.out (reads_take (Kd.C_below HC1.out HBW.out) kr.toNat (by omega)) (fun x cs h => by rw [k55_open h]; exact k55_mkM _ _ _ x) (fun _ h => h.elim) (fun _ _ => trivial) HBW.out HBW.out.size (by simp only [List.length_nil, List.length_drop]; omega) ?_
          intro v_ w2 hR_ hB_ hg_ hat_
          refine hK.out _ _ ⟨v42_, v47_, v_, (by rw [ha.out]; exact putSel_upk 10 hb_ rfl rfl rfl), fun _ => hB_, fun _ h1_ => absurd ((hon 5 (by kernel_rfl)).symm.trans h1_) (by decide), fun _ h1_ => absurd ((up_self b 10).symm.trans h1_) (by decide), fun _ _ => hR_, fun h0_ => absurd ((hoff 12 (by kernel_rfl)).symm.trans h0_) (by decide)⟩
        refine steps_cons ?_ ?_
        · rintro b a w' ⟨v42_, v47_, v52_, ha, Q_HBW, Q_RA, Q_RB, Q_RC, Q_END⟩ hb_ hon hoff
          refine ⟨_, rfl, fun K hK => ?_⟩
          have e9 : a.tmps[9]? = some (.pointer (some ⟨gx, 0, none⟩)) := by rw [ha]; exact (putSel_off rfl).trans rfl
          replace ha := Aside0.mk ha
          have HBW := Aside0.mk (Q_HBW (hoff 12 (by kernel_rfl)))
          have RC := Aside0.mk (Q_RC (hon 10 (by kernel_rfl)) (hoff 12 (by kernel_rfl)))
          refine value_ (w1 := w') (v := .pointer (some ⟨gx, 1, none⟩)) (by rfl) rfl ?_ ?_
          · go_simp
            (try simp only [i64_w])
            try rfl
          refine hK.out _ _ ⟨v42_, v47_, v52_, (by rw [ha.out]; exact putSel_upk 11 hb_ rfl rfl rfl), Q_HBW, fun _ h1_ => absurd ((hon 5 (by kernel_rfl)).symm.trans h1_) (by decide), fun _ h1_ => absurd ((hon 10 (by kernel_rfl)).symm.trans h1_) (by decide), Q_RC, fun h0_ => absurd ((hoff 12 (by kernel_rfl)).symm.trans h0_) (by decide)⟩
        refine steps_cons ?_ ?_
        · rintro b a w' ⟨v42_, v47_, v52_, ha, Q_HBW, Q_RA, Q_RB, Q_RC, Q_END⟩ hb_ hon hoff
          refine ⟨_, rfl, fun K hK => ?_⟩
          have e53 : a.tmps[53]? = some (.pointer (some ⟨gx, 1, none⟩)) := by rw [ha]; exact putSel_on (e := (11, 53, .pointer (some ⟨gx, 1, none⟩))) 11 rfl rfl (hon 11 (by kernel_rfl)) rfl
          have e52 : a.tmps[52]? = some (v52_) := by rw [ha]; exact putSel_on (e := (10, 52, v52_)) 10 rfl rfl (hon 10 (by kernel_rfl)) rfl
          replace ha := Aside0.mk ha
          have HBW := Aside0.mk (Q_HBW hb_)
          have RC := Aside0.mk (Q_RC (hon 10 (by kernel_rfl)) hb_)
          obtain ⟨b52_, y52_, rfl⟩ := Kd.R_slice RC.out
          have bx_ := CX.out.below HBW.out
          have c1 := bx_.x1
          have f1 := blk_frozen bx_.box 1
          refine skip_ (w1 := w'.setCell ⟨gx, 1, none⟩ (.slice b52_ (a0.ri.drop kr.toNat ++ a0.ri.take kr.toNat).length y52_)) (by rfl) rfl (by go_simp) ?_
          refine hK.out _ _ ⟨v42_, v47_, (.slice b52_ (a0.ri.drop kr.toNat ++ a0.ri.take kr.toNat).length y52_), (by rw [ha.out]; exact putSel_none (v := undef) rfl), fun h0_ => absurd ((up_self b 12).symm.trans h0_) (by decide), fun _ h1_ => absurd ((hon 5 (by kernel_rfl)).symm.trans h1_) (by decide), fun _ h1_ => absurd ((hon 10 (by kernel_rfl)).symm.trans h1_) (by decide), fun _ h1_ => absurd ((up_self b 12).symm.trans h1_) (by decide), fun _ => ⟨{ X with ri := a0.ri.drop kr.toNat ++ a0.ri.take kr.toNat, A1 := b52_, c1 := y52_ }, ⟨HXE.out.1, fun x => mem_rot _ _ x, len_rot _ _, HXE.out.2.2.1, HXE.out.2.2.2⟩, below_set (bt HB.out HBW.out) (Nat.le_of_lt HGX.out), by rw [HEA.out]; exact blk_far (p := ⟨gx, 1, none⟩) (blk_below HBX.out HBW.out) (show _ ≠ gx from Nat.ne_of_lt HGX.out) _, blk_set bx_.box 1 _, ⟨(Own.set27 bx_.own bx_.box 1 _).r0, Kd.R_lower (R_set RC.out bx_.box (by decide) 1 _) HB.out.size, (Own.set27 bx_.own bx_.box 1 _).r2, (Own.set27 bx_.own bx_.box 1 _).r3⟩, CX.out.ge⟩⟩
        exact steps_nil
      · rintro b a w' hall ⟨v42_, v47_, v52_, ha, Q_HBW, Q_RA, Q_RB, Q_RC, Q_END⟩
        clear HBW
        have hb0_ := hall 0 (by kernel_rfl)
        have hb1_ := hall 1 (by kernel_rfl)
        have hb2_ := hall 2 (by kernel_rfl)
        have hb3_ := hall 3 (by kernel_rfl)
        have hb4_ := hall 4 (by kernel_rfl)
        have hb5_ := hall 5 (by kernel_rfl)
        have hb6_ := hall 6 (by kernel_rfl)
        have hb7_ := hall 7 (by kernel_rfl)
        have hb8_ := hall 8 (by kernel_rfl)
        have hb9_ := hall 9 (by kernel_rfl)
        have hb10_ := hall 10 (by kernel_rfl)
        have hb11_ := hall 11 (by kernel_rfl)
        have hb12_ := hall 12 (by kernel_rfl)
        subst ha
        simp only [putSel, hb0_, hb1_, hb2_, hb3_, hb4_, hb5_, hb6_, hb7_, hb8_, hb9_, hb10_, hb11_, hb12_, if_true, Act.put, List.setIfInBounds_toArray, List.set_cons_zero, List.set_cons_succ]
        clear Q_HBW
        clear Q_RA
        clear Q_RB
        clear Q_RC
        have END := Aside0.mk (Q_END hb12_)
        clear Q_END
        clear hall hb0_ hb1_ hb2_ hb3_ hb4_ hb5_ hb6_ hb7_ hb8_ hb9_ hb10_ hb11_ hb12_
        go_wp2_with fail
        go_meet
        exact END.out
    · go_wp2_with fail
      go_meet
      exact ⟨X, ⟨HXE.out.1, fun x => by rw [HXE.out.2.1], by rw [HXE.out.2.1], HXE.out.2.2.1, HXE.out.2.2.2⟩, HB.out, HBX.out, CX.out⟩
  case rest =>
    clear HB HBX CX HXE
    clear x0_ x1_ x2_ x3_
    clear d0 d1 d2 d3
    obtain ⟨X1, HXE, k0_, k1_, k2_⟩ := hcut
    have HB := Aside0.mk k0_
    have HBX := Aside0.mk k1_
    have CX := Aside0.mk k2_
    clear k0_ k1_ k2_
    clear X
    obtain ⟨X, rfl⟩ : ∃ X : Rv, X = X1 := ⟨_, rfl⟩
    have d0 := (blk_cell HBX.out 0).trans rfl
    have d1 := (blk_cell HBX.out 1).trans rfl
    have d2 := (blk_cell HBX.out 2).trans rfl
    have d3 := (blk_cell HBX.out 3).trans rfl
    have x0_ := CX.out.x0
    have x1_ := CX.out.x1
    have x2_ := CX.out.x2
    have x3_ := CX.out.x3
    go_wp2_with fail
    have HK := Aside0.mk (mod_bd (q := a2) hc1)
    generalize a2 % (a0.ca.length : Int) = ck at *
    clear q2
    have hr0 := HK.out.1
    have hr1 := HK.out.2
    have hcap := HI.out.h2
    obtain ⟨ps, hps1, hps2, hps3⟩ := heads HI.out.r2
    obtain ⟨ad, ea, _⟩ := (Kd.C_below HI.out.r2 HB.out).2.2 (by omega)
    have HEA := Aside0.mk ea
    have HPS := Aside0.mk (And.intro hps1 hps3)
    have hps2 := Kd.C_below hps2 HB.out
    have hsl := hps2.1
    obtain ⟨hs, hhs⟩ : ∃ hs, hs = ps.map Prod.snd := ⟨_, rfl⟩
    have HHS := Aside0.mk hhs
    rw [← hhs] at hps2 hsl
    have HSL := Aside0.mk hsl
    rw [ea] at hps2 HBX
    have HC1 := Aside0.mk hps2
    clear hps1 hps2 hps3 hhs ea
    clear x0_ x1_ x2_ x3_
    clear d0 d1 d2 d3
    refine start_ (n := 13) (S := fun w' => True) (ds := []) #[false, false, false, false, false, false, false, false, false, false, false, false, false] (by kernel_rfl) rfl rfl trivial (fun hHeld => ?_)
    refine with_tabW order.tab10 order.bits10 (fun HT_ HW_ => ?_)
    have HBW := Aside0.mk (below_drew (Below.refl wc.heap.size wc))
    generalize wc.drew = wd_ at *
    refine inv_at [0, 1, 2, 3, 4, 5, 6, 7, 8, 9, 10, 11, 12] (fun a0_ b a w' => ∃ (v60_ : Value) (v65_ : Value) (v70_ : Value), a = putSel a0_ b [(0, 60, v60_), (1, 61, .pointer (some ⟨w.heap.size, 2, none⟩)), (2, 62, .slice (some ad) a0.ca.length a0.c2), (3, 63, .int .i64 ck), (4, 64, .slice (some (ad.add (ck.toNat * 1))) (a0.ca.length - ck.toNat) (a0.c2 - ck.toNat)), (5, 65, v65_), (6, 66, .pointer (some ⟨w.heap.size, 2, none⟩)), (7, 67, .slice (some ad) a0.ca.length a0.c2), (8, 68, .int .i64 ck), (9, 69, .slice (some ad) ck.toNat a0.c2), (10, 70, v70_), (11, 71, .pointer (some ⟨gx, 2, none⟩))] ∧ (b 12 = false → Below wc.heap.size wc w') ∧ (b 0 = true → b 5 = false → Kd.R (Kd.raw 1) 59 w' wc.heap.size (fun _ => True) (v60_) ([])) ∧ (b 5 = true → b 10 = false → Kd.R (Kd.raw 1) 59 w' wc.heap.size (fun _ => True) (v65_) (hs.drop ck.toNat)) ∧ (b 10 = true → b 12 = false → Kd.R (Kd.raw 1) 59 w' wc.heap.size (fun _ => True) (v70_) (hs.drop ck.toNat ++ hs.take ck.toNat)) ∧ (b 12 = true → ∃ (A2_ : Option Addr) (c2_ : Nat), Below w.heap.size w w' ∧ w'.heap[w.heap.size]? = some (.cells #[.slice a0.A0 a0.st.length a0.c0, .slice a0.A1 a0.ri.length a0.c1, .slice a0.A2 a0.ca.length a0.c2, .slice a0.A3 a0.su.length a0.c3] 27 (0, 0)) ∧ w'.heap[gx]? = some (.cells #[.slice X.A0 X.st.length X.c0, .slice X.A1 X.ri.length X.c1, .slice A2_ a0.ca.length c2_, .slice X.A3 X.su.length X.c3] 27 (0, 0)) ∧ Kd.R k65 65 w' w.heap.size (fun _ => True) (.slice X.A0 X.st.length X.c0) X.st ∧ Kd.R k55 55 w' w.heap.size (fun _ => True) (.slice X.A1 X.ri.length X.c1) X.ri ∧ Kd.R k50 50 w' w.heap.size (fun _ => True) (.slice X.A3 X.su.length X.c3) X.su ∧ Kd.R (Kd.raw 1) 59 w' w.heap.size (fun _ => True) (.slice A2_ a0.ca.length c2_) (hs.drop ck.toNat ++ hs.take ck.toNat))) HT_.out HW_.out (by kernel_rfl) (by kernel_rfl) ?_ ?_ ?_
    · exact ⟨.bool false, .bool false, .bool false, by simp only [putSel, Bool.false_eq_true, if_false], fun _ => HBW.out, fun h_ => absurd h_ (by decide), fun h_ => absurd h_ (by decide), fun h_ => absurd h_ (by decide), fun h_ => absurd h_ (by decide)⟩
    · skip
      clear HBW
      refine steps_cons ?_ ?_
      · rintro b a w' ⟨v60_, v65_, v70_, ha, Q_HBW, Q_RA, Q_RB, Q_RC, Q_END⟩ hb_ hon hoff
        refine ⟨_, rfl, fun K hK => ?_⟩
        replace ha := Aside0.mk ha
        have HBW := Aside0.mk (Q_HBW (hoff 12 (by kernel_rfl)))
        refine Kd.R_lit_step (Kd.raw 1) wc.heap.size 59 (by rfl) (N := 60) rfl (xs := ([] : List (List Value))) (inner := []) (ok := fun _ => True) (okp := fun _ => True) (by first | (go_simp; done) | (go_simp; rfl)) (Reps.none _ _) (fun _ hk => hk) trivial HBW.out HBW.out.size (by simp) ?_
        intro v_ w2 hR_ hB_ hg_ hat_
        refine hK.out _ _ ⟨v_, v65_, v70_, (by rw [ha.out]; exact putSel_upk 0 hb_ rfl rfl rfl), fun _ => hB_, fun _ _ => hR_, fun h0_ _ => absurd ((hoff 5 (by kernel_rfl)).symm.trans h0_) (by decide), fun h0_ _ => absurd ((hoff 10 (by kernel_rfl)).symm.trans h0_) (by decide), fun h0_ => absurd ((hoff 12 (by kernel_rfl)).symm.trans h0_) (by decide)⟩
      refine steps_cons ?_ ?_
      · rintro b a w' ⟨v60_, v65_, v70_, ha, Q_HBW, Q_RA, Q_RB, Q_RC, Q_END⟩ hb_ hon hoff
        refine ⟨_, rfl, fun K hK => ?_⟩
        have e3 : a.tmps[3]? = some (.pointer (some ⟨w.heap.size, 0, none⟩)) := by rw [ha]; exact (putSel_off rfl).trans rfl
        replace ha := Aside0.mk ha
        have HBW := Aside0.mk (Q_HBW (hoff 12 (by kernel_rfl)))
        refine value_ (w1 := w') (v := .pointer (some ⟨w.heap.size, 2, none⟩)) (by rfl) rfl ?_ ?_
        · go_simp
          (try simp only [i64_w])
          try rfl
        refine hK.out _ _ ⟨v60_, v65_, v70_, (by rw [ha.out]; exact putSel_upk 1 hb_ rfl rfl rfl), Q_HBW, Q_RA, fun h0_ _ => absurd ((hoff 5 (by kernel_rfl)).symm.trans h0_) (by decide), fun h0_ _ => absurd ((hoff 10 (by kernel_rfl)).symm.trans h0_) (by decide), fun h0_ => absurd ((hoff 12 (by kernel_rfl)).symm.trans h0_) (by decide)⟩
      refine steps_cons ?_ ?_
      · rintro b a w' ⟨v60_, v65_, v70_, ha, Q_HBW, Q_RA, Q_RB, Q_RC, Q_END⟩ hb_ hon hoff
        refine ⟨_, rfl, fun K hK => ?_⟩
        have e61 : a.tmps[61]? = some (.pointer (some ⟨w.heap.size, 2, none⟩)) := by rw [ha]; exact putSel_on (e := (1, 61, .pointer (some ⟨w.heap.size, 2, none⟩))) 1 rfl rfl (hon 1 (by kernel_rfl)) rfl
        replace ha := Aside0.mk ha
        have HBW := Aside0.mk (Q_HBW (hoff 12 (by kernel_rfl)))
        have k0_ := (blk_cell (blk_below HBX.out HBW.out) 2).trans rfl
        refine value_ (w1 := w') (v := .slice (some ad) a0.ca.length a0.c2) (by rfl) rfl ?_ ?_
        · go_simp
          (try simp only [i64_w])
          try rfl
        refine hK.out _ _ ⟨v60_, v65_, v70_, (by rw [ha.out]; exact putSel_upk 2 hb_ rfl rfl rfl), Q_HBW, Q_RA, fun h0_ _ => absurd ((hoff 5 (by kernel_rfl)).symm.trans h0_) (by decide), fun h0_ _ => absurd ((hoff 10 (by kernel_rfl)).symm.trans h0_) (by decide), fun h0_ => absurd ((hoff 12 (by kernel_rfl)).symm.trans h0_) (by decide)⟩
      refine steps_cons ?_ ?_
      · rintro b a w' ⟨v60_, v65_, v70_, ha, Q_HBW, Q_RA, Q_RB, Q_RC, Q_END⟩ hb_ hon hoff
        refine ⟨_, rfl, fun K hK => ?_⟩
        have e12 : a.tmps[12]? = some (.int .i64 ck) := by rw [ha]; exact (putSel_off rfl).trans rfl
        replace ha := Aside0.mk ha
        have HBW := Aside0.mk (Q_HBW (hoff 12 (by kernel_rfl)))
        refine value_ (w1 := w') (v := .int .i64 ck) (by rfl) rfl ?_ ?_
        · go_simp
          (try simp only [i64_w])
          try rfl
        refine hK.out _ _ ⟨v60_, v65_, v70_, (by rw [ha.out]; exact putSel_upk 3 hb_ rfl rfl rfl), Q_HBW, Q_RA, fun h0_ _ => absurd ((hoff 5 (by kernel_rfl)).symm.trans h0_) (by decide), fun h0_ _ => absurd ((hoff 10 (by kernel_rfl)).symm.trans h0_) (by decide), fun h0_ => absurd ((hoff 12 (by kernel_rfl)).symm.trans h0_) (by decide)⟩
      refine steps_cons ?_ ?_
      · rintro b a w' ⟨v60_, v65_, v70_, ha, Q_HBW, Q_RA, Q_RB, Q_RC, Q_END⟩ hb_ hon hoff
        refine ⟨_, rfl, fun K hK => ?_⟩
        have e62 : a.tmps[62]? = some (.slice (some ad) a0.ca.length a0.c2) := by rw [ha]; exact putSel_on (e := (2, 62, .slice (some ad) a0.ca.length a0.c2)) 2 rfl rfl (hon 2 (by kernel_rfl)) rfl
        have e63 : a.tmps[63]? = some (.int .i64 ck) := by rw [ha]; exact putSel_on (e := (3, 63, .int .i64 ck)) 3 rfl rfl (hon 3 (by kernel_rfl)) rfl
        replace ha := Aside0.mk ha
        have HBW := Aside0.mk (Q_HBW (hoff 12 (by kernel_rfl)))
        have k1_ : (0 : Int) ≤ ck := hr0
        have k2_ := hr1
        have k3_ : ck ≤ (a0.ca.length : Int) := Int.le_of_lt hr1
        have k4_ : ck ≤ (a0.c2 : Int) := by omega
        have k5_ : ¬ a0.c2 = ck.toNat := by omega
        have k6_ : (a0.ca.length : Int) ≤ (a0.c2 : Int) := by omega
        refine value_ (w1 := w') (v := .slice (some (ad.add (ck.toNat * 1))) (a0.ca.length - ck.toNat) (a0.c2 - ck.toNat)) (by rfl) rfl ?_ ?_
        · go_simp
          (try simp only [i64_w])
          try rfl
        refine hK.out _ _ ⟨v60_, v65_, v70_, (by rw [ha.out]; exact putSel_upk 4 hb_ rfl rfl rfl), Q_HBW, Q_RA, fun h0_ _ => absurd ((hoff 5 (by kernel_rfl)).symm.trans h0_) (by decide), fun h0_ _ => absurd ((hoff 10 (by kernel_rfl)).symm.trans h0_) (by decide), fun h0_ => absurd ((hoff 12 (by kernel_rfl)).symm.trans h0_) (by decide)⟩
      refine steps_cons ?_ ?_
      · rintro b a w' ⟨v60_, v65_, v70_, ha, Q_HBW, Q_RA, Q_RB, Q_RC, Q_END⟩ hb_ hon hoff
        refine ⟨_, rfl, fun K hK => ?_⟩
        have e60 : a.tmps[60]? = some (v60_) := by rw [ha]; exact putSel_on (e := (0, 60, v60_)) 0 rfl rfl (hon 0 (by kernel_rfl)) rfl
        have e64 : a.tmps[64]? = some (.slice (some (ad.add (ck.toNat * 1))) (a0.ca.length - ck.toNat) (a0.c2 - ck.toNat)) := by rw [ha]; exact putSel_on (e := (4, 64, .slice (some (ad.add (ck.toNat * 1))) (a0.ca.length - ck.toNat) (a0.c2 - ck.toNat))) 4 rfl rfl (hon 4 (by kernel_rfl)) rfl
        replace ha := Aside0.mk ha
        have HBW := Aside0.mk (Q_HBW (hoff 12 (by kernel_rfl)))
        have RA := Aside0.mk (Q_RA (hon 0 (by kernel_rfl)) hb_)
        refine Kd.R_append_rows_step (Kd.raw 1) (w0 := wc) wc.heap.size (by rfl) (.tmp 60) (.tmp 64) 24 59 (.slice none 0 0) 24 rfl Try.underlying24 info59 rfl (by decide) (by decide) v60_ ([]) _ (some (ad.add (ck.toNat * 1))) (a0.ca.length - ck.toNat) (a0.c2 - ck.toNat) (fun _ => True) (fun _ => False) (by simp only [Act.eval, Array.getD_eq_getD_getElem?, Option.getD_some, e60]) (by simp only [Act.eval, Array.getD_eq_getD_getElem?, Option.getD_some, e64]) RA.out (reads_drop (Kd.C_below HC1.out HBW.out) ck.toNat (by omega)) (fun _ _ h => h) (fun _ h => h.elim) (fun _ _ => trivial) HBW.out HBW.out.size (by simp only [List.length_nil, List.length_drop]; omega) ?_
        intro v_ w2 hR_ hB_ hg_ hat_
        refine hK.out _ _ ⟨v60_, v_, v70_, (by rw [ha.out]; exact putSel_upk 5 hb_ rfl rfl rfl), fun _ => hB_, fun _ h1_ => absurd ((up_self b 5).symm.trans h1_) (by decide), fun _ _ => hR_, fun h0_ _ => absurd ((hoff 10 (by kernel_rfl)).symm.trans h0_) (by decide), fun h0_ => absurd ((hoff 12 (by kernel_rfl)).symm.trans h0_) (by decide)⟩
      refine steps_cons ?_ ?_
      · rintro b a w' ⟨v60_, v65_, v70_, ha, Q_HBW, Q_RA, Q_RB, Q_RC, Q_END⟩ hb_ hon hoff
        refine ⟨_, rfl, fun K hK => ?_⟩
        have e3 : a.tmps[3]? = some (.pointer (some ⟨w.heap.size, 0, none⟩)) := by rw [ha]; exact (putSel_off rfl).trans rfl
        replace ha := Aside0.mk ha
        have HBW := Aside0.mk (Q_HBW (hoff 12 (by kernel_rfl)))
        refine value_ (w1 := w') (v := .pointer (some ⟨w.heap.size, 2, none⟩)) (by rfl) rfl ?_ ?_
        · go_simp
          (try simp only [i64_w])
          try rfl
        refine hK.out _ _ ⟨v60_, v65_, v70_, (by rw [ha.out]; exact putSel_upk 6 hb_ rfl rfl rfl), Q_HBW, Q_RA, Q_RB, fun h0_ _ => absurd ((hoff 10 (by kernel_rfl)).symm.trans h0_) (by decide), fun h0_ => absurd ((hoff 12 (by kernel_rfl)).symm.trans h0_) (by decide)⟩
      refine steps_cons ?_ ?_
      · rintro b a w' ⟨v60_, v65_, v70_, ha, Q_HBW, Q_RA, Q_RB, Q_RC, Q_END⟩ hb_ hon hoff
        refine ⟨_, rfl, fun K hK => ?_⟩
        have e66 : a.tmps[66]? = some (.pointer (some ⟨w.heap.size, 2, none⟩)) := by rw [ha]; exact putSel_on (e := (6, 66, .pointer (some ⟨w.heap.size, 2, none⟩))) 6 rfl rfl (hon 6 (by kernel_rfl)) rfl
        replace ha := Aside0.mk ha
        have HBW := Aside0.mk (Q_HBW (hoff 12 (by kernel_rfl)))
        have k0_ := (blk_cell (blk_below HBX.out HBW.out) 2).trans rfl
        refine value_ (w1 := w') (v := .slice (some ad) a0.ca.length a0.c2) (by rfl) rfl ?_ ?_
        · go_simp
          (try simp only [i64_w])
          try rfl
        refine hK.out _ _ ⟨v60_, v65_, v70_, (by rw [ha.out]; exact putSel_upk 7 hb_ rfl rfl rfl), Q_HBW, Q_RA, Q_RB, fun h0_ _ => absurd ((hoff 10 (by kernel_rfl)).symm.trans h0_) (by decide), fun h0_ => absurd ((hoff 12 (by kernel_rfl)).symm.trans h0_) (by decide)⟩
      refine steps_cons ?_ ?_
      · rintro b a w' ⟨v60_, v65_, v70_, ha, Q_HBW, Q_RA, Q_RB, Q_RC, Q_END⟩ hb_ hon hoff
        refine ⟨_, rfl, fun K hK => ?_⟩
        have e12 : a.tmps[12]? = some (.int .i64 ck) := by rw [ha]; exact (putSel_off rfl).trans rfl
        replace ha := Aside0.mk ha
        have HBW := Aside0.mk (Q_HBW (hoff 12 (by kernel_rfl)))
        refine value_ (w1 := w') (v := .int .i64 ck) (by rfl) rfl ?_ ?_
        · go_simp
          (try simp only [i64_w])
          try rfl
        refine hK.out _ _ ⟨v60_, v65_, v70_, (by rw [ha.out]; exact putSel_upk 8 hb_ rfl rfl rfl), Q_HBW, Q_RA, Q_RB, fun h0_ _ => absurd ((hoff 10 (by kernel_rfl)).symm.trans h0_) (by decide), fun h0_ => absurd ((hoff 12 (by kernel_rfl)).symm.trans h0_) (by decide)⟩
      refine steps_cons ?_ ?_
      · rintro b a w' ⟨v60_, v65_, v70_, ha, Q_HBW, Q_RA, Q_RB, Q_RC, Q_END⟩ hb_ hon hoff
        refine ⟨_, rfl, fun K hK => ?_⟩
        have e67 : a.tmps[67]? = some (.slice (some ad) a0.ca.length a0.c2) := by rw [ha]; exact putSel_on (e := (7, 67, .slice (some ad) a0.ca.length a0.c2)) 7 rfl rfl (hon 7 (by kernel_rfl)) rfl
        have e68 : a.tmps[68]? = some (.int .i64 ck) := by rw [ha]; exact putSel_on (e := (8, 68, .int .i64 ck)) 8 rfl rfl (hon 8 (by kernel_rfl)) rfl
        replace ha := Aside0.mk ha
        have HBW := Aside0.mk (Q_HBW (hoff 12 (by kernel_rfl)))
        have k1_ : (0 : Int) ≤ ck := hr0
        have k2_ := hr1
        have k3_ : ck ≤ (a0.ca.length : Int) := Int.le_of_lt hr1
        have k4_ : ck ≤ (a0.c2 : Int) := by omega
        have k5_ : ¬ a0.c2 = ck.toNat := by omega
        have k6_ : (a0.ca.length : Int) ≤ (a0.c2 : Int) := by omega
        refine value_ (w1 := w') (v := .slice (some ad) ck.toNat a0.c2) (by rfl) rfl ?_ ?_
        · go_simp
          (try simp only [i64_w])
          try rfl
        refine hK.out _ _ ⟨v60_, v65_, v70_, (by rw [ha.out]; exact putSel_upk 9 hb_ rfl rfl rfl), Q_HBW, Q_RA, Q_RB, fun h0_ _ => absurd ((hoff 10 (by kernel_rfl)).symm.trans h0_) (by decide), fun h0_ => absurd ((hoff 12 (by kernel_rfl)).symm.trans h0_) (by decide)⟩
      refine steps_cons ?_ ?_
      · rintro b a w' ⟨v60_, v65_, v70_, ha, Q_HBW, Q_RA, Q_RB, Q_RC, Q_END⟩ hb_ hon hoff
        refine ⟨_, rfl, fun K hK => ?_⟩
        have e65 : a.tmps[65]? = some (v65_) := by rw [ha]; exact putSel_on (e := (5, 65, v65_)) 5 rfl rfl (hon 5 (by kernel_rfl)) rfl
        have e69 : a.tmps[69]? = some (.slice (some ad) ck.toNat a0.c2) := by rw [ha]; exact putSel_on (e := (9, 69, .slice (some ad) ck.toNat a0.c2)) 9 rfl rfl (hon 9 (by kernel_rfl)) rfl
        replace ha := Aside0.mk ha
        have HBW := Aside0.mk (Q_HBW (hoff 12 (by kernel_rfl)))
        have RB := Aside0.mk (Q_RB (hon 5 (by kernel_rfl)) hb_)
        refine Kd.R_append_rows_step (Kd.raw 1) (w0 := wc) wc.heap.size (by rfl) (.tmp 65) (.tmp 69) 24 59 (.slice none 0 0) 24 rfl Try.underlying24 info59 rfl (by decide) (by decide) v65_ (hs.drop ck.toNat) _ (some ad) (ck.toNat) (a0.c2) (fun _ => True) (fun _ => False) (by simp only [Act.eval, Array.getD_eq_getD_getElem?, Option.getD_some, e65]) (by simp only [Act.eval, Array.getD_eq_getD_getElem?, Option.getD_some, e69]) RB.out (reads_take (Kd.C_below HC1.out HBW.out) ck.toNat (by omega)) (fun _ _ h => h) (fun _ h => h.elim) (fun _ _ => trivial) HBW.out HBW.out.size (by simp only [List.length_nil, List.length_drop]; omega) ?_
        intro v_ w2 hR_ hB_ hg_ hat_
        refine hK.out _ _ ⟨v60_, v65_, v_, (by rw [ha.out]; exact putSel_upk 10 hb_ rfl rfl rfl), fun _ => hB_, fun _ h1_ => absurd ((hon 5 (by kernel_rfl)).symm.trans h1_) (by decide), fun _ h1_ => absurd ((up_self b 10).symm.trans h1_) (by decide), fun _ _ => hR_, fun h0_ => absurd ((hoff 12 (by kernel_rfl)).symm.trans h0_) (by decide)⟩
      refine steps_cons ?_ ?_
      · rintro b a w' ⟨v60_, v65_, v70_, ha, Q_HBW, Q_RA, Q_RB, Q_RC, Q_END⟩ hb_ hon hoff
        refine ⟨_, rfl, fun K hK => ?_⟩
        have e9 : a.tmps[9]? = some (.pointer (some ⟨gx, 0, none⟩)) := by rw [ha]; exact (putSel_off rfl).trans rfl
        replace ha := Aside0.mk ha
        have HBW := Aside0.mk (Q_HBW (hoff 12 (by kernel_rfl)))
        have RC := Aside0.mk (Q_RC (hon 10 (by kernel_rfl)) (hoff 12 (by kernel_rfl)))
        refine value_ (w1 := w') (v := .pointer (some ⟨gx, 2, none⟩)) (by rfl) rfl ?_ ?_
        · go_simp
          (try simp only [i64_w])
          try rfl
        refine hK.out _ _ ⟨v60_, v65_, v70_, (by rw [ha.out]; exact putSel_upk 11 hb_ rfl rfl rfl), Q_HBW, fun _ h1_ => absurd ((hon 5 (by kernel_rfl)).symm.trans h1_) (by decide), fun _ h1_ => absurd ((hon 10 (by kernel_rfl)).symm.trans h1_) (by decide), Q_RC, fun h0_ => absurd ((hoff 12 (by kernel_rfl)).symm.trans h0_) (by decide)⟩
      refine steps_cons ?_ ?_
      · rintro b a w' ⟨v60_, v65_, v70_, ha, Q_HBW, Q_RA, Q_RB, Q_RC, Q_END⟩ hb_ hon hoff
        refine ⟨_, rfl, fun K hK => ?_⟩
        have e71 : a.tmps[71]? = some (.pointer (some ⟨gx, 2, none⟩)) := by rw [ha]; exact putSel_on (e := (11, 71, .pointer (some ⟨gx, 2, none⟩))) 11 rfl rfl (hon 11 (by kernel_rfl)) rfl
        have e70 : a.tmps[70]? = some (v70_) := by rw [ha]; exact putSel_on (e := (10, 70, v70_)) 10 rfl rfl (hon 10 (by kernel_rfl)) rfl
        replace ha := Aside0.mk ha
        have HBW := Aside0.mk (Q_HBW hb_)
        have RC := Aside0.mk (Q_RC (hon 10 (by kernel_rfl)) hb_)
        obtain ⟨b52_, y52_, hv_⟩ := Kd.R_slice RC.out
        rw [len_rot, HSL.out] at hv_
        subst hv_
        have bx_ := CX.out.below HBW.out
        have c2 := bx_.x2
        have f2 := blk_frozen bx_.box 2
        refine skip_ (w1 := w'.setCell ⟨gx, 2, none⟩ (.slice b52_ a0.ca.length y52_)) (by rfl) rfl (by go_simp) ?_
        refine hK.out _ _ ⟨v60_, v65_, (.slice b52_ a0.ca.length y52_), (by rw [ha.out]; exact putSel_none (v := undef) rfl), fun h0_ => absurd ((up_self b 12).symm.trans h0_) (by decide), fun _ h1_ => absurd ((hon 5 (by kernel_rfl)).symm.trans h1_) (by decide), fun _ h1_ => absurd ((hon 10 (by kernel_rfl)).symm.trans h1_) (by decide), fun _ h1_ => absurd ((up_self b 12).symm.trans h1_) (by decide), fun _ => ⟨b52_, y52_, below_set (bt HB.out HBW.out) (Nat.le_of_lt HGX.out), by rw [HEA.out]; exact blk_far (p := ⟨gx, 2, none⟩) (blk_below HBX.out HBW.out) (show _ ≠ gx from Nat.ne_of_lt HGX.out) _, blk_set bx_.box 2 _, (Own.set27 bx_.own bx_.box 2 _).r0, (Own.set27 bx_.own bx_.box 2 _).r1, (Own.set27 bx_.own bx_.box 2 _).r3, Kd.R_lower (R_set RC.out bx_.box (by decide) 2 _) HB.out.size⟩⟩
      exact steps_nil
    · rintro b a w' hall ⟨v60_, v65_, v70_, ha, Q_HBW, Q_RA, Q_RB, Q_RC, Q_END⟩
      clear HBW
      have hb0_ := hall 0 (by kernel_rfl)
      have hb1_ := hall 1 (by kernel_rfl)
      have hb2_ := hall 2 (by kernel_rfl)
      have hb3_ := hall 3 (by kernel_rfl)
      have hb4_ := hall 4 (by kernel_rfl)
      have hb5_ := hall 5 (by kernel_rfl)
      have hb6_ := hall 6 (by kernel_rfl)
      have hb7_ := hall 7 (by kernel_rfl)
      have hb8_ := hall 8 (by kernel_rfl)
      have hb9_ := hall 9 (by kernel_rfl)
      have hb10_ := hall 10 (by kernel_rfl)
      have hb11_ := hall 11 (by kernel_rfl)
      have hb12_ := hall 12 (by kernel_rfl)
      subst ha
      simp only [putSel, hb0_, hb1_, hb2_, hb3_, hb4_, hb5_, hb6_, hb7_, hb8_, hb9_, hb10_, hb11_, hb12_, if_true, Act.put, List.setIfInBounds_toArray, List.set_cons_zero, List.set_cons_succ]
      clear Q_HBW
      clear Q_RA
      clear Q_RB
      clear Q_RC
      have END := Aside0.mk (Q_END hb12_)
      clear Q_END
      clear hall hb0_ hb1_ hb2_ hb3_ hb4_ hb5_ hb6_ hb7_ hb8_ hb9_ hb10_ hb11_ hb12_
      obtain ⟨A2_, c2_, k0_, k1_, k2_, q0_, q1_, q3_, q2_⟩ := END.out
      rw [HHS.out] at q2_
      obtain ⟨Y, hY⟩ : ∃ Y : Rv, Y = ⟨X.st, X.ri, a0.ca.drop ck.toNat ++ a0.ca.take ck.toNat, X.su, X.A0, X.A1, A2_, X.A3, X.c0, X.c1, c2_, X.c3⟩ := ⟨_, rfl⟩
      have HYI := Aside0.mk (show Y.In w' from by rw [hY]; exact rot_in (X := X) HPS.out.1 HPS.out.2 k0_ q0_ q1_ q3_ q2_)
      have HYB := Aside0.mk (show w'.heap[gx]? = some (.cells #[.slice Y.A0 Y.st.length Y.c0, .slice Y.A1 Y.ri.length Y.c1, .slice Y.A2 Y.ca.length Y.c2, .slice Y.A3 Y.su.length Y.c3] 27 (0, 0)) from by rw [hY]; simp only [len_rot]; exact k2_)
      have HQ := Aside0.mk (ask_mk (at_pair (R := a0) HP.out.1 HP.out.2.1 ⟨Int.le_refl 0, by omega⟩ ⟨Int.le_refl 0, by omega⟩) HP.out.2.2)
      have HOL := Aside0.mk (order_law (R := a0) (X := Y) (a := pa) (b := pb) (k := ck.toNat) HC.out HQ.out (by rw [hY]; exact HXE.out.1) (by rw [hY]; exact HXE.out.2.1) (by rw [hY]; exact HXE.out.2.2.1) (by rw [hY]) (by rw [hY]; exact HXE.out.2.2.2.2) HF.out)
      have HB := Aside0.mk k0_
      have HBX := Aside0.mk k1_
      clear k0_ k1_ k2_ q0_ q1_ q3_ q2_ END hY HC1 CX
      obtain ⟨xs, hx⟩ : ∃ xs, alwaysE a0.lv pa pb = (xs, 0) := ⟨_, always_list HC.out HQ.out⟩
      have HX0 := Aside0.mk hx
      have HX1 := Aside0.mk (HOL.out.2.1.trans hx)
      obtain ⟨r, q, hr⟩ : ∃ r q, riseE a0.lv pa pb = (r, q) := ⟨_, _, rfl⟩
      have HR0 := Aside0.mk hr
      have HR1 := Aside0.mk (HOL.out.2.2.trans hr)
      clear hx hr
      have d0 := (blk_cell HBX.out 0).trans rfl
      have d1 := (blk_cell HBX.out 1).trans rfl
      have d2 := (blk_cell HBX.out 2).trans rfl
      have d3 := (blk_cell HBX.out 3).trans rfl
      have x0_ := (blk_cell HYB.out 0).trans rfl
      have x1_ := (blk_cell HYB.out 1).trans rfl
      have x2_ := (blk_cell HYB.out 2).trans rfl
      have x3_ := (blk_cell HYB.out 3).trans rfl
      go_wp2_with fail
      refine (lland_c a0 _ (HI.out.below HB.out) HF.out).mono ?_
      rintro e w8_ ⟨L, rfl, hO, hL, hb_⟩
      replace HB := Aside0.mk (bt HB.out hb_)
      replace HBX := Aside0.mk (blk_below HBX.out hb_)
      replace HYB := Aside0.mk (blk_below HYB.out hb_)
      replace HYI := Aside0.mk (HYI.out.below hb_)
      clear x0_ x1_ x2_ x3_
      clear d0 d1 d2 d3
      clear hb_
      have d0 := (blk_cell HBX.out 0).trans rfl
      have d1 := (blk_cell HBX.out 1).trans rfl
      have d2 := (blk_cell HBX.out 2).trans rfl
      have d3 := (blk_cell HBX.out 3).trans rfl
      have x0_ := (blk_cell HYB.out 0).trans rfl
      have x1_ := (blk_cell HYB.out 1).trans rfl
      have x2_ := (blk_cell HYB.out 2).trans rfl
      have x3_ := (blk_cell HYB.out 3).trans rfl
      have HO := Aside0.mk hO
      have HL := Aside0.mk hL
      clear hO hL
      go_wp2_with fail
      refine (of_always HO.out HL.out pa pb).mono ?_
      rintro e w9_ ⟨Aa0, ca0, rfl, hY, hb_⟩
      replace HB := Aside0.mk (bt HB.out hb_)
      replace HBX := Aside0.mk (blk_below HBX.out hb_)
      replace HYB := Aside0.mk (blk_below HYB.out hb_)
      replace HYI := Aside0.mk (HYI.out.below hb_)
      clear x0_ x1_ x2_ x3_
      clear d0 d1 d2 d3
      clear hb_
      have d0 := (blk_cell HBX.out 0).trans rfl
      have d1 := (blk_cell HBX.out 1).trans rfl
      have d2 := (blk_cell HBX.out 2).trans rfl
      have d3 := (blk_cell HBX.out 3).trans rfl
      have x0_ := (blk_cell HYB.out 0).trans rfl
      have x1_ := (blk_cell HYB.out 1).trans rfl
      have x2_ := (blk_cell HYB.out 2).trans rfl
      have x3_ := (blk_cell HYB.out 3).trans rfl
      rw [HX0.out] at hY
      rw [HX0.out]
      have HY0 := Aside0.mk hY
      clear hY HO HL
      have lx := HY0.out.2.1
      go_wp2_with fail
      refine (lland_c Y _ HYI.out HOL.out.1).mono ?_
      rintro e w10_ ⟨L, rfl, hO, hL, hb_⟩
      replace HB := Aside0.mk (bt HB.out hb_)
      replace HBX := Aside0.mk (blk_below HBX.out hb_)
      replace HY0 := Aside0.mk (Kd.C_below HY0.out hb_)
      replace HYB := Aside0.mk (blk_below HYB.out hb_)
      replace HYI := Aside0.mk (HYI.out.below hb_)
      clear x0_ x1_ x2_ x3_
      clear d0 d1 d2 d3
      clear hb_
      have d0 := (blk_cell HBX.out 0).trans rfl
      have d1 := (blk_cell HBX.out 1).trans rfl
      have d2 := (blk_cell HBX.out 2).trans rfl
      have d3 := (blk_cell HBX.out 3).trans rfl
      have x0_ := (blk_cell HYB.out 0).trans rfl
      have x1_ := (blk_cell HYB.out 1).trans rfl
      have x2_ := (blk_cell HYB.out 2).trans rfl
      have x3_ := (blk_cell HYB.out 3).trans rfl
      have HO := Aside0.mk hO
      have HL := Aside0.mk hL
      clear hO hL
      go_wp2_with fail
      refine (of_always HO.out HL.out pa pb).mono ?_
      rintro e w11_ ⟨Aa1, ca1, rfl, hY, hb_⟩
      replace HB := Aside0.mk (bt HB.out hb_)
      replace HBX := Aside0.mk (blk_below HBX.out hb_)
      replace HY0 := Aside0.mk (Kd.C_below HY0.out hb_)
      replace HYB := Aside0.mk (blk_below HYB.out hb_)
      replace HYI := Aside0.mk (HYI.out.below hb_)
      clear x0_ x1_ x2_ x3_
      clear d0 d1 d2 d3
      clear hb_
      have d0 := (blk_cell HBX.out 0).trans rfl
      have d1 := (blk_cell HBX.out 1).trans rfl
      have d2 := (blk_cell HBX.out 2).trans rfl
      have d3 := (blk_cell HBX.out 3).trans rfl
      have x0_ := (blk_cell HYB.out 0).trans rfl
      have x1_ := (blk_cell HYB.out 1).trans rfl
      have x2_ := (blk_cell HYB.out 2).trans rfl
      have x3_ := (blk_cell HYB.out 3).trans rfl
      rw [HX1.out] at hY
      rw [HX1.out]
      have HY1 := Aside0.mk hY
      clear hY HO HL
      go_wp2_with fail
      refine (lland_c a0 _ (HI.out.below HB.out) HF.out).mono ?_
      rintro e w12_ ⟨L, rfl, hO, hL, hb_⟩
      replace HB := Aside0.mk (bt HB.out hb_)
      replace HBX := Aside0.mk (blk_below HBX.out hb_)
      replace HY0 := Aside0.mk (Kd.C_below HY0.out hb_)
      replace HY1 := Aside0.mk (Kd.C_below HY1.out hb_)
      replace HYB := Aside0.mk (blk_below HYB.out hb_)
      replace HYI := Aside0.mk (HYI.out.below hb_)
      clear x0_ x1_ x2_ x3_
      clear d0 d1 d2 d3
      clear hb_
      have d0 := (blk_cell HBX.out 0).trans rfl
      have d1 := (blk_cell HBX.out 1).trans rfl
      have d2 := (blk_cell HBX.out 2).trans rfl
      have d3 := (blk_cell HBX.out 3).trans rfl
      have x0_ := (blk_cell HYB.out 0).trans rfl
      have x1_ := (blk_cell HYB.out 1).trans rfl
      have x2_ := (blk_cell HYB.out 2).trans rfl
      have x3_ := (blk_cell HYB.out 3).trans rfl
      have HO := Aside0.mk hO
      have HL := Aside0.mk hL
      clear hO hL
      go_wp2_with fail
      refine (of_rise HO.out HL.out pa pb).mono ?_
      rintro e w13_ ⟨rfl, hb_⟩
      replace HB := Aside0.mk (bt HB.out hb_)
      replace HBX := Aside0.mk (blk_below HBX.out hb_)
      replace HY0 := Aside0.mk (Kd.C_below HY0.out hb_)
      replace HY1 := Aside0.mk (Kd.C_below HY1.out hb_)
      replace HYB := Aside0.mk (blk_below HYB.out hb_)
      replace HYI := Aside0.mk (HYI.out.below hb_)
      clear x0_ x1_ x2_ x3_
      clear d0 d1 d2 d3
      clear hb_
      have d0 := (blk_cell HBX.out 0).trans rfl
      have d1 := (blk_cell HBX.out 1).trans rfl
      have d2 := (blk_cell HBX.out 2).trans rfl
      have d3 := (blk_cell HBX.out 3).trans rfl
      have x0_ := (blk_cell HYB.out 0).trans rfl
      have x1_ := (blk_cell HYB.out 1).trans rfl
      have x2_ := (blk_cell HYB.out 2).trans rfl
      have x3_ := (blk_cell HYB.out 3).trans rfl
      rw [HR0.out]
      clear HO HL
      go_wp2_with fail
      refine (lland_c Y _ HYI.out HOL.out.1).mono ?_
      rintro e w14_ ⟨L, rfl, hO, hL, hb_⟩
      replace HB := Aside0.mk (bt HB.out hb_)
      replace HBX := Aside0.mk (blk_below HBX.out hb_)
      replace HY0 := Aside0.mk (Kd.C_below HY0.out hb_)
      replace HY1 := Aside0.mk (Kd.C_below HY1.out hb_)
      replace HYB := Aside0.mk (blk_below HYB.out hb_)
      replace HYI := Aside0.mk (HYI.out.below hb_)
      clear x0_ x1_ x2_ x3_
      clear d0 d1 d2 d3
      clear hb_
      have d0 := (blk_cell HBX.out 0).trans rfl
      have d1 := (blk_cell HBX.out 1).trans rfl
      have d2 := (blk_cell HBX.out 2).trans rfl
      have d3 := (blk_cell HBX.out 3).trans rfl
      have x0_ := (blk_cell HYB.out 0).trans rfl
      have x1_ := (blk_cell HYB.out 1).trans rfl
      have x2_ := (blk_cell HYB.out 2).trans rfl
      have x3_ := (blk_cell HYB.out 3).trans rfl
      have HO := Aside0.mk hO
      have HL := Aside0.mk hL
      clear hO hL
      go_wp2_with fail
      refine (of_rise HO.out HL.out pa pb).mono ?_
      rintro e w15_ ⟨rfl, hb_⟩
      replace HB := Aside0.mk (bt HB.out hb_)
      replace HBX := Aside0.mk (blk_below HBX.out hb_)
      replace HY0 := Aside0.mk (Kd.C_below HY0.out hb_)
      replace HY1 := Aside0.mk (Kd.C_below HY1.out hb_)
      replace HYB := Aside0.mk (blk_below HYB.out hb_)
      replace HYI := Aside0.mk (HYI.out.below hb_)
      clear x0_ x1_ x2_ x3_
      clear d0 d1 d2 d3
      clear hb_
      have d0 := (blk_cell HBX.out 0).trans rfl
      have d1 := (blk_cell HBX.out 1).trans rfl
      have d2 := (blk_cell HBX.out 2).trans rfl
      have d3 := (blk_cell HBX.out 3).trans rfl
      have x0_ := (blk_cell HYB.out 0).trans rfl
      have x1_ := (blk_cell HYB.out 1).trans rfl
      have x2_ := (blk_cell HYB.out 2).trans rfl
      have x3_ := (blk_cell HYB.out 3).trans rfl
      rw [HR1.out]
      clear HO HL
      have tq : (q == q) = true := by simp
      have tr : (r == r) = true := by simp
      go_wp2_with fail
      refine (ints_c Aa0 Aa1 ca0 ca1 xs xs _ HY0.out HY1.out).mono ?_
      rintro e w16_ ⟨rfl, hb_⟩
      replace HB := Aside0.mk (bt HB.out hb_)
      replace HBX := Aside0.mk (blk_below HBX.out hb_)
      replace HY0 := Aside0.mk (Kd.C_below HY0.out hb_)
      replace HY1 := Aside0.mk (Kd.C_below HY1.out hb_)
      replace HYB := Aside0.mk (blk_below HYB.out hb_)
      replace HYI := Aside0.mk (HYI.out.below hb_)
      clear x0_ x1_ x2_ x3_
      clear d0 d1 d2 d3
      clear hb_
      have d0 := (blk_cell HBX.out 0).trans rfl
      have d1 := (blk_cell HBX.out 1).trans rfl
      have d2 := (blk_cell HBX.out 2).trans rfl
      have d3 := (blk_cell HBX.out 3).trans rfl
      have x0_ := (blk_cell HYB.out 0).trans rfl
      have x1_ := (blk_cell HYB.out 1).trans rfl
      have x2_ := (blk_cell HYB.out 2).trans rfl
      have x3_ := (blk_cell HYB.out 3).trans rfl
      rw [beq_self_eq_true xs]
      go_wp2_with fail
      refine (awake_c _).mono ?_
      rintro e w17_ ⟨rfl, hb_⟩
      replace HB := Aside0.mk (bt HB.out hb_)
      replace HBX := Aside0.mk (blk_below HBX.out hb_)
      replace HY0 := Aside0.mk (Kd.C_below HY0.out hb_)
      replace HY1 := Aside0.mk (Kd.C_below HY1.out hb_)
      replace HYB := Aside0.mk (blk_below HYB.out hb_)
      replace HYI := Aside0.mk (HYI.out.below hb_)
      clear x0_ x1_ x2_ x3_
      clear d0 d1 d2 d3
      clear hb_
      go_wp2_with fail
      go_ret
      exact ⟨ret_bool rfl, HB.out⟩
end Go.Proofs.Ytkbdphjnpieceaa.G
namespace Go.Proofs.Ytkbdphjnpieceaa.hillOrder
open Go.ChangeShapes Go.WideShapes Go.ChangeAt Go.RowKit Go.Proofs.Ytkbdphjnpieceaa.G
set_option linter.unusedVariables false
theorem own : ownKnob Try.prog.godebug = none := by kernel_rfl
theorem laidOut : laidOutB Try.prog = true := by kernel_rfl
set_option maxRecDepth 100000 in
theorem lifted (os : Os) (started : os.Started) (H : Type) (enc : TypeId × Value → H) :
    ReturnsInHanded {} Try.checked os 11 .any (Rows.hillOrderSpec.pre6 enc Try.prog Try.f11 Rows.hillOrderRow.domain false) (Rows.hillOrderSpec.post enc Try.prog Try.f11 false true false false) := by
  refine returnsInHanded_of_change_sized (C := Try.checked) own started (by kernel_rfl) Try.func11
    (ChangeSpec.witness6 (enc := enc) (C := Try.checked) false ⟨#[], #[.agg #[.slice none 0 0, .slice none 0 0, .slice none 0 0, .slice none 0 0], .int .u8 0, .int .u8 0], []⟩ 8 (by kernel_rfl) (by kernel_rfl) (by kernel_rfl) (by kernel_rfl)) ?_
  intro W base args ds gs before hval0 hW hcnd hsz0 _
  have hval : ∀ (j : Nat) t v, Try.f11.params[j]? = some t → args[j]? = some v → Value.okWide Try.prog W .any base t v := hval0
  have hW' := hW
  obtain ⟨p, q, hA0, hV, rfl, hfz, hnd⟩ := hW
  have hA : DataW.TrodAll enc Try.prog W 0 (fun _ => true) true Try.f11.params.toList args.toList ds p := hA0
  rw [Try.params11] at hA hval
  obtain ⟨v0, vs0, d0, ds0, p0, q0, hargs, rfl, rfl, h0, r0⟩ := trodAll_cons hA
  obtain ⟨v1, vs1, d1, ds1, p1, q1, rfl, rfl, rfl, h1, r1⟩ := trodAll_cons r0
  obtain ⟨v2, vs2, d2, ds2, p2, q2, rfl, rfl, rfl, h2, r2⟩ := trodAll_cons r1
  obtain ⟨rfl, rfl, rfl⟩ := trodAll_nil r2
  obtain rfl : args = #[v0, v1, v2] := by cases args; simp_all
  obtain ⟨rfl, rfl⟩ := trodVars_none hV
  have k0 := h0
  have lt0 : ∀ x ∈ p0, x.block < W.heap.size := by obtain ⟨m, hm⟩ := k0; exact DataW.trod_lt m _ _ _ hm
  obtain ⟨a0, rfl, w0⟩ := open_land (hval 0 27 v0 rfl rfl) h0
  obtain ⟨a1, rfl, rfl, rfl, w1⟩ := open_int Try.underlying5 (hval 1 5 v1 rfl rfl) h1
  obtain ⟨a2, rfl, rfl, rfl, w2⟩ := open_int Try.underlying5 (hval 2 5 v2 rfl rfl) h2
  clear hA0 hval0 hsz0
  refine (G.hillOrder_c a0 a1 a2 W w0 w1 w2).mono fun e W' ⟨he, bel⟩ => ?_
  subst he
  exact ⟨_, rfl, _, _, _, [], _, [], hW', trodAll_mk1 (shut_bool Try.underlying4 _), (trodAll_cons_mk (Below.trod laidOut (by kernel_rfl) (of_decide_eq_true (by kernel_rfl)) k0 bel lt0) (trodAll_cons_mk (shut_int Try.underlying5 w1) (trodAll_cons_mk (shut_int Try.underlying5 w2) trodAll_mk0))), rfl, bel.frame _, fun h => by cases h⟩
theorem over : Rows.hillOrderRow.holds Try.pinned (OpenSpec.ofChange Rows.hillOrderSpec) :=
  OpenClaim.holds_of_wide 11 Try.f11 rfl rfl rfl rfl rfl rfl rfl ⟨rfl, rfl, rfl, rfl, rfl⟩ rfl rfl rfl rfl rfl (by kernel_rfl) Try.func11 (by kernel_rfl)
    (of_decide_eq_true (by kernel_rfl)) (by unfold Func.isWrapper; first | (rw [if_pos (by decide +kernel)]; kernel_rfl) | (rw [if_neg (by decide +kernel)]; exact ⟨rfl, rfl⟩))
    (fun os started H enc _ => lifted os started H enc)
theorem proved : Rows.HillOrderSaid := over
#print axioms proved
end Go.Proofs.Ytkbdphjnpieceaa.hillOrder
namespace Go.Proofs.Ytkbdphjnpieceaa
/-- The row, under a short name, for the claim. -/
theorem hillOrder_holds : Rows.HillOrderSaid := hillOrder.proved
end Go.Proofs.Ytkbdphjnpieceaa

