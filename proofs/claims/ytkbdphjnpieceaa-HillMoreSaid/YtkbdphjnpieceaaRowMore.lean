/- HillMore holds: for every input the call returns true, and each argument reads afterwards as it read before; no condition. -/
import Derived.Test.YtkbdphjnpieceaaRows
import Derived.WalkKit
import Derived.ProofKit
import Derived.OpenShut
import Derived.ShutString
import Derived.ChangeOld
import Derived.Below
import Derived.SizedLaws
import Derived.Test.YtkbdphjnpieceaaC4
import Derived.Test.YtkbdphjnpieceaaP5
namespace Go.Proofs.Ytkbdphjnpieceaa.G
open Go.RowKit Go.Proofs.YtkbdphjnpieceaaW.PrintWords Go.Proofs.YtkbdphjnpieceaaW.PrintLast Go.Proofs.YtkbdphjnpieceaaW.PrintMore
set_option linter.unusedVariables false
set_option linter.unusedSimpArgs false
open Go.Sort (grow)
theorem within_sub {L M : Lv} {a b k k' : Int} (hs : M.st = L.st) (hu : M.su = L.su) (hr : ∀ x ∈ M.ri, x ∈ L.ri) (hc : ∀ c ∈ rd_L9 M.ca k', c ∈ rd_L9 L.ca k) : withinB (filK (fun h => canF L a b k h) L.su.length) (filK (fun h => canF M a b k' h) M.su.length) = true := by
  rw [hu]
  exact within_fil fun i _ _ hp => can_sub hs hu hr hc hp
theorem few_ri {R X : Rv} (hF : R.Few) (hs : X.st = R.st) (hr : X.ri.length ≤ 1000) (hc : X.ca = R.ca) (hu : X.su = R.su) : X.Few := ⟨by rw [hs]; exact hF.s, hr, by rw [hu]; exact hF.u, by rw [hc]; exact hF.c, by rw [hc]; exact hF.cc⟩
/-- One more ridge (X), one more cloud (Y), no clouds (Z). -/
theorem more_law {R X Y Z : Rv} {a b k : Int} {m : S55} {c : S61} (hC : R.lv.check = 0) (hA : R.lv.At a b k 0) (hne : a ≠ b)
    (xs : X.st = R.st) (xr : X.ri = R.ri ++ [m]) (xc : X.ca = R.ca) (xu : X.su = R.su) (ys : Y.st = R.st) (yr : Y.ri = R.ri) (yc : Y.ca = R.ca.set k.toNat (rd_L3 R.ca k ++ [c])) (yu : Y.su = R.su)
    (zs : Z.st = R.st) (zr : Z.ri = R.ri) (zc : Z.ca = R.ca.set k.toNat []) (zu : Z.su = R.su) :
    ∃ hs free, hoursE R.lv a b k = (hs, 0) ∧ hoursE Z.lv a b k = (free, 0) ∧ withinB hs free = true ∧ (∀ c : Int, 0 ≤ c → c < R.ca.length → ∃ os, hoursE R.lv a b c = (os, 0) ∧ withinB os free = true) ∧
      (X.lv.check = 0 → ∃ ls, hoursE X.lv a b k = (ls, 0) ∧ withinB ls hs = true) ∧ (Y.lv.check = 0 → ∃ ls, hoursE Y.lv a b k = (ls, 0) ∧ withinB ls hs = true) := by
  have kk : k < R.ca.length := by have := hA.k1; rwa [lv_len2] at this
  have e : ∀ {V : Rv}, V.st = R.st → V.lv.st = R.lv.st := fun h => by show List.map cSt _ = _; rw [h]; rfl
  have eu : ∀ {V : Rv}, V.su = R.su → V.lv.su = R.lv.su := fun h => by show List.map cSu _ = _; rw [h]; rfl
  have er : ∀ {V : Rv}, V.ri = R.ri → V.lv.ri = R.lv.ri := fun h => by show List.map cWl _ = _; rw [h]; rfl
  have q : ∀ c : Int, 0 ≤ c → c < R.ca.length → R.lv.ask a b c 0 = 0 := fun c h0 h1 => ask_mk ⟨hA.f0, hA.f1, hA.t0, hA.t1, h0, by rw [lv_len2]; exact h1, hA.h0, hA.h1⟩ hne
  have qv : ∀ {V : Rv}, V.st = R.st → V.ca.length = R.ca.length → V.su = R.su → V.lv.ask a b k 0 = 0 := fun h1 h2 h3 => by
    rw [ask_len (L := R.lv) (by rw [lv_len0, lv_len0, h1]) (by rw [lv_len2, lv_len2, h2]) (by rw [lv_len3, lv_len3, h3])]; exact q k hA.k0 kk
  have z9 : rd_L9 Z.lv.ca k = [] := by rw [lv_ca, zc, rd_L3_set hA.k0 kk]; rfl
  have zl : Z.ca.length = R.ca.length := by rw [zc, List.length_set]
  have zC : Z.lv.check = 0 := by
    show checkF Z.lv.st Z.lv.ri Z.lv.ca Z.lv.su = 0
    rw [e zs, er zr, eu zu]
    refine check_sub hC (by have := (small_of hC).2.1; omega) (ridge_ok hC) (by rw [lv_len2, lv_len2, zl]) (fun d hd => ?_)
    obtain ⟨d', hd', rfl⟩ := List.mem_map.1 (show d ∈ Z.ca.map (·.map cCl) from hd)
    rw [zc] at hd'
    rcases List.mem_or_eq_of_mem_set hd' with h1 | h1
    · exact case_ok hC _ (List.mem_map.2 ⟨d', h1, rfl⟩)
    · rw [h1]; exact ⟨rfl, rfl⟩
  have wz : ∀ c : Int, withinB (filK (fun h => canF R.lv a b c h) R.lv.su.length) (filK (fun h => canF Z.lv a b k h) Z.lv.su.length) = true := fun c =>
    within_sub (L := R.lv) (M := Z.lv) (e zs) (eu zu) (by rw [er zr]; exact fun _ h => h) (by rw [z9]; exact fun _ h => by cases h)
  refine ⟨_, _, hours_ok hC (q k hA.k0 kk), hours_ok zC (qv zs zl zu), wz k, fun c h0 h1 => ⟨_, hours_ok hC (q c h0 h1), wz c⟩, fun h => ⟨_, hours_ok h (qv xs (by rw [xc]) xu), ?_⟩, fun h => ⟨_, hours_ok h (qv ys (by rw [yc, List.length_set]) yu), ?_⟩⟩
  · refine within_sub (L := X.lv) (M := R.lv) (e xs).symm (eu xu).symm (fun x hx => ?_) (fun d hd => ?_)
    · show x ∈ X.ri.map cWl
      rw [xr, List.map_append]
      exact List.mem_append_left _ hx
    · rw [lv_ca] at hd ⊢
      rw [xc]; exact hd
  · refine within_sub (L := Y.lv) (M := R.lv) (e ys).symm (eu yu).symm (fun x hx => by rw [er yr]; exact hx) (fun d hd => ?_)
    rw [lv_ca] at hd ⊢
    rw [yc, rd_L3_set hA.k0 kk, List.map_append]
    exact List.mem_append_left _ hd
def more.T5 : Bool × List (List Nat × List Nat) := (true, [([], []), ([0], [0]), ([], []), ([2, 1], [2]), ([], []), ([4, 3], [4]), ([], []), ([], []), ([], []), ([6, 1, 5, 0, 1, 6, 7, 8], [1, 6]), ([7, 3, 9, 0, 1, 2, 3, 6, 7, 8, 9], [3, 7]), ([8, 5, 10, 0, 1, 2, 3, 4, 5, 6, 7, 8, 9, 10], [5, 8])])
def more.B5 : List Nat := [0, 1, 0, 7, 0, 31, 0, 0, 0, 511, 1023, 2047]
theorem more.tab5 : rtab .any (opsOf Try.f5 5) = more.T5 := by kernel_rfl
theorem more.bits5 : waitsOk more.T5.2 more.B5 = true := by kernel_rfl
def more.T9 : Bool × List (List Nat × List Nat) := (true, [([], []), ([0], [0]), ([], []), ([], []), ([3], [3]), ([], []), ([4, 5], [4, 5]), ([6], [6]), ([], []), ([], []), ([], []), ([], []), ([11], [11]), ([], []), ([13], [13]), ([14], [14]), ([], []), ([15, 16], [15, 16]), ([12, 17], [12, 17]), ([10, 18], [10, 18]), ([8, 9, 19], [8, 9, 19]), ([20], [20]), ([7, 21], [7, 21]), ([1, 2, 0, 1, 2, 3, 4, 5, 6, 7, 8, 9, 10, 11, 12, 13, 14, 15, 16, 17, 18, 19, 20, 21, 22], [1, 2]), ([23, 22, 22, 0, 1, 2, 3, 4, 5, 6, 7, 8, 9, 10, 11, 12, 13, 14, 15, 16, 17, 18, 19, 20, 21, 22], [22, 23])])
def more.B9 : List Nat := [0, 1, 0, 0, 8, 0, 56, 120, 0, 0, 0, 0, 2048, 0, 8192, 24576, 0, 122880, 260096, 523264, 1048320, 2096896, 4194296, 8388607, 16777215]
theorem more.tab9 : rtab .any (opsOf Try.f5 9) = more.T9 := by kernel_rfl
theorem more.bits9 : waitsOk more.T9.2 more.B9 = true := by kernel_rfl
set_option maxHeartbeats 8000000 in
set_option maxRecDepth 100000 in
theorem hillMore_c (a0 : Rv) (a1 : Int) (a2 : Int) (a3 : S55) (a4 : Int) (a5 : Int) (w : World) (h0 : a0.In w) (h1 : (Lit.int .u8 a1).wf = true) (h2 : (Lit.int .u8 a2).wf = true) (h4 : (Lit.int .u8 a4).wf = true) (h5 : (Lit.int .u8 a5).wf = true) :
    Calls Try.prog 5 #[.agg a0.cells, .int .u8 a1, .int .u8 a2, .agg #[.int .i64 a3.f0, .int .i64 a3.f1, .int .i64 a3.f2, .int .i64 a3.f3, .int .i64 a3.f4, .int .i64 a3.f5], .int .u8 a4, .int .u8 a5] w fun e w' => e = .returned (.bool true) ∧ Below w.heap.size w w' := by
  have HI := Aside0.mk h0
  have HB := Aside0.mk (below_alloc (b1 w (.cells a0.cells 27)) (.cells #[.int .i64 a3.f0, .int .i64 a3.f1, .int .i64 a3.f2, .int .i64 a3.f3, .int .i64 a3.f4, .int .i64 a3.f5] 55))
  have HBX := Aside0.mk (blk_alloc (blk_new w (.cells a0.cells 27)) (.cells #[.int .i64 a3.f0, .int .i64 a3.f1, .int .i64 a3.f2, .int .i64 a3.f3, .int .i64 a3.f4, .int .i64 a3.f5] 55))
  have HBV := Aside0.mk (show ((w.alloc (.cells a0.cells 27)).alloc (.cells #[.int .i64 a3.f0, .int .i64 a3.f1, .int .i64 a3.f2, .int .i64 a3.f3, .int .i64 a3.f4, .int .i64 a3.f5] 55)).heap[w.heap.size + 1]? = some (.cells #[.int .i64 a3.f0, .int .i64 a3.f1, .int .i64 a3.f2, .int .i64 a3.f3, .int .i64 a3.f4, .int .i64 a3.f5] 55 (0, 0)) from by have h_ := blk_new (w.alloc (.cells a0.cells 27)) (.cells #[.int .i64 a3.f0, .int .i64 a3.f1, .int .i64 a3.f2, .int .i64 a3.f3, .int .i64 a3.f4, .int .i64 a3.f5] 55); simpa using h_)
  have l0 := h0.r0.2.1
  have l1 := h0.r1.2.1
  have l2 := h0.r2.2.1
  have l3 := h0.r3.2.1
  clear h0
  simp only [Rv.cells] at *
  by_cases hth : a0.rdy = true
  rotate_left
  · have HT : Aside0 (a0.rdy = false) := ⟨by simpa using hth⟩
    clear hth
    go_enter Try.func5, Try.ntmps5
    have d0 := (blk_cell HBX.out 0).trans rfl
    have d1 := (blk_cell HBX.out 1).trans rfl
    have d2 := (blk_cell HBX.out 2).trans rfl
    have d3 := (blk_cell HBX.out 3).trans rfl
    go_wp2_with fail
    refine (ready_c a0 _ (HI.out.below HB.out)).mono ?_
    rintro e w1_ ⟨rfl, hb_⟩
    replace HB := Aside0.mk (bt HB.out hb_)
    replace HBX := Aside0.mk (blk_below HBX.out hb_)
    replace HBV := Aside0.mk (blk_below HBV.out hb_)
    clear d0 d1 d2 d3
    clear hb_
    have d0 := (blk_cell HBX.out 0).trans rfl
    have d1 := (blk_cell HBX.out 1).trans rfl
    have d2 := (blk_cell HBX.out 2).trans rfl
    have d3 := (blk_cell HBX.out 3).trans rfl
    rw [HT.out]
    go_wp2_with fail
    refine (awake_c _).mono ?_
    rintro e w2_ ⟨rfl, hb_⟩
    replace HB := Aside0.mk (bt HB.out hb_)
    replace HBX := Aside0.mk (blk_below HBX.out hb_)
    replace HBV := Aside0.mk (blk_below HBV.out hb_)
    clear d0 d1 d2 d3
    clear hb_
    go_wp2_with fail
    go_ret
    exact ⟨ret_bool rfl, HB.out⟩
  have HT := Aside0.mk hth
  have HF := Aside0.mk (rdy_of hth).1
  have HC := Aside0.mk (rdy_of hth).2.1
  have HLEN := Aside0.mk (rdy_of hth).2.2
  clear hth
  obtain ⟨hs2, hs6, hr6, hc1, hc4, hu1, hu12⟩ := HLEN.out
  go_enter Try.func5, Try.ntmps5
  have d0 := (blk_cell HBX.out 0).trans rfl
  have d1 := (blk_cell HBX.out 1).trans rfl
  have d2 := (blk_cell HBX.out 2).trans rfl
  have d3 := (blk_cell HBX.out 3).trans rfl
  go_wp2_with fail
  refine (ready_c a0 _ (HI.out.below HB.out)).mono ?_
  rintro e w3_ ⟨rfl, hb_⟩
  replace HB := Aside0.mk (bt HB.out hb_)
  replace HBX := Aside0.mk (blk_below HBX.out hb_)
  replace HBV := Aside0.mk (blk_below HBV.out hb_)
  clear d0 d1 d2 d3
  clear hb_
  have d0 := (blk_cell HBX.out 0).trans rfl
  have d1 := (blk_cell HBX.out 1).trans rfl
  have d2 := (blk_cell HBX.out 2).trans rfl
  have d3 := (blk_cell HBX.out 3).trans rfl
  rw [HT.out]
  go_wp2_with fail
  have HCC := Aside0.mk (cases_few HC.out)
  have q2 := u8_bd h2
  have q4 := u8_bd h4
  have q5 := u8_bd h5
  refine (pair_c a0 a1 _ hs2 (by omega) h1).mono ?_
  rintro e w4_ ⟨rfl, hb_⟩
  replace HB := Aside0.mk (bt HB.out hb_)
  replace HBX := Aside0.mk (blk_below HBX.out hb_)
  replace HBV := Aside0.mk (blk_below HBV.out hb_)
  clear d0 d1 d2 d3
  clear hb_
  have d0 := (blk_cell HBX.out 0).trans rfl
  have d1 := (blk_cell HBX.out 1).trans rfl
  have d2 := (blk_cell HBX.out 2).trans rfl
  have d3 := (blk_cell HBX.out 3).trans rfl
  have HP := Aside0.mk (pair_bd (n := (a0.st.length : Int)) (q := a1) (by omega) (u8_bd h1).1)
  generalize pairA a0.st.length a1 = pa at *
  generalize pairB a0.st.length a1 = pb at *
  go_wp2_with fail
  go_upto_region 5 with (fail)
  have HK := Aside0.mk (mod_bd (q := a2) hc1)
  generalize a2 % (a0.ca.length : Int) = ck at *
  clear q2
  clear d0 d1 d2 d3
  refine start_ (n := 12) (S := fun w' => True) (ds := []) #[false, false, false, false, false, false, false, false, false, false, false, false] (by kernel_rfl) rfl rfl trivial (fun hHeld => ?_)
  refine with_tabW more.tab5 more.bits5 (fun HT_ HW_ => ?_)
  have HBW := Aside0.mk (below_drew (Below.refl w4_.heap.size w4_))
  generalize w4_.drew = W1 at *
  refine inv_at [0, 1, 2, 3, 4, 5, 6, 7, 8, 9, 10, 11] (fun a0_ b a w' => ∃ (X1 : Rv) (lo1 : Nat) (hi1 : Nat) (X2 : Rv) (lo2 : Nat) (hi2 : Nat) (X3 : Rv) (lo3 : Nat) (hi3 : Nat) (g1 : Nat) (g2 : Nat) (g3 : Nat) (m1_ : Value) (m3_ : Value) (m5_ : Value) (m6_ : Value) (m7_ : Value) (m8_ : Value), a = putSel a0_ b [(0, 47, .agg #[.slice a0.A0 a0.st.length a0.c0, .slice a0.A1 a0.ri.length a0.c1, .slice a0.A2 a0.ca.length a0.c2, .slice a0.A3 a0.su.length a0.c3]), (1, 48, m1_), (2, 49, .agg #[.slice a0.A0 a0.st.length a0.c0, .slice a0.A1 a0.ri.length a0.c1, .slice a0.A2 a0.ca.length a0.c2, .slice a0.A3 a0.su.length a0.c3]), (3, 50, m3_), (4, 51, .agg #[.slice a0.A0 a0.st.length a0.c0, .slice a0.A1 a0.ri.length a0.c1, .slice a0.A2 a0.ca.length a0.c2, .slice a0.A3 a0.su.length a0.c3]), (5, 52, m5_), (6, 16, m6_), (7, 17, m7_), (8, 18, m8_)] ∧ (Below w4_.heap.size w4_ w') ∧ (b 6 = true → w4_.heap.size ≤ g1 ∧ ∃ u0 u1 u2 u3 : Value, w'.heap[g1]? = some (.cells #[u0, u1, u2, u3] 27 (0, 0))) ∧ (b 7 = true → w4_.heap.size ≤ g2 ∧ ∃ u0 u1 u2 u3 : Value, w'.heap[g2]? = some (.cells #[u0, u1, u2, u3] 27 (0, 0))) ∧ (b 8 = true → w4_.heap.size ≤ g3 ∧ ∃ u0 u1 u2 u3 : Value, w'.heap[g3]? = some (.cells #[u0, u1, u2, u3] 27 (0, 0))) ∧ (b 6 = true → b 7 = true → g1 ≠ g2) ∧ (b 6 = true → b 8 = true → g1 ≠ g3) ∧ (b 7 = true → b 8 = true → g2 ≠ g3) ∧ (b 9 = true → w'.heap[g1]? = some (.cells #[.slice X1.A0 X1.st.length X1.c0, .slice X1.A1 X1.ri.length X1.c1, .slice X1.A2 X1.ca.length X1.c2, .slice X1.A3 X1.su.length X1.c3] 27 (0, 0))) ∧ (b 10 = true → w'.heap[g2]? = some (.cells #[.slice X2.A0 X2.st.length X2.c0, .slice X2.A1 X2.ri.length X2.c1, .slice X2.A2 X2.ca.length X2.c2, .slice X2.A3 X2.su.length X2.c3] 27 (0, 0))) ∧ (b 11 = true → w'.heap[g3]? = some (.cells #[.slice X3.A0 X3.st.length X3.c0, .slice X3.A1 X3.ri.length X3.c1, .slice X3.A2 X3.ca.length X3.c2, .slice X3.A3 X3.su.length X3.c3] 27 (0, 0))) ∧ (b 1 = true → New a0 X1 lo1 hi1 w.heap.size w4_ w') ∧ (b 3 = true → New a0 X2 lo2 hi2 w.heap.size w4_ w') ∧ (b 1 = true → b 3 = true → hi1 ≤ lo2) ∧ (b 5 = true → New a0 X3 lo3 hi3 w.heap.size w4_ w') ∧ (b 1 = true → b 5 = true → hi1 ≤ lo3) ∧ (b 3 = true → b 5 = true → hi2 ≤ lo3) ∧ (b 1 = true → (m1_ : Value) = .agg #[.slice X1.A0 X1.st.length X1.c0, .slice X1.A1 X1.ri.length X1.c1, .slice X1.A2 X1.ca.length X1.c2, .slice X1.A3 X1.su.length X1.c3]) ∧ (b 3 = true → (m3_ : Value) = .agg #[.slice X2.A0 X2.st.length X2.c0, .slice X2.A1 X2.ri.length X2.c1, .slice X2.A2 X2.ca.length X2.c2, .slice X2.A3 X2.su.length X2.c3]) ∧ (b 5 = true → (m5_ : Value) = .agg #[.slice X3.A0 X3.st.length X3.c0, .slice X3.A1 X3.ri.length X3.c1, .slice X3.A2 X3.ca.length X3.c2, .slice X3.A3 X3.su.length X3.c3]) ∧ (b 6 = true → (m6_ : Value) = .pointer (some ⟨g1, 0, none⟩)) ∧ (b 7 = true → (m7_ : Value) = .pointer (some ⟨g2, 0, none⟩)) ∧ (b 8 = true → (m8_ : Value) = .pointer (some ⟨g3, 0, none⟩))) HT_.out HW_.out (by kernel_rfl) (by kernel_rfl) ?_ ?_ ?_
  · exact ⟨a0, 0, 0, a0, 0, 0, a0, 0, 0, 0, 0, 0, .bool false, .bool false, .bool false, .bool false, .bool false, .bool false, by simp only [putSel, Bool.false_eq_true, if_false], HBW.out, fun h_ => absurd h_ (by decide), fun h_ => absurd h_ (by decide), fun h_ => absurd h_ (by decide), fun h_ => absurd h_ (by decide), fun h_ => absurd h_ (by decide), fun h_ => absurd h_ (by decide), fun h_ => absurd h_ (by decide), fun h_ => absurd h_ (by decide), fun h_ => absurd h_ (by decide), fun h_ => absurd h_ (by decide), fun h_ => absurd h_ (by decide), fun h_ => absurd h_ (by decide), fun h_ => absurd h_ (by decide), fun h_ => absurd h_ (by decide), fun h_ => absurd h_ (by decide), fun h_ => absurd h_ (by decide), fun h_ => absurd h_ (by decide), fun h_ => absurd h_ (by decide), fun h_ => absurd h_ (by decide), fun h_ => absurd h_ (by decide), fun h_ => absurd h_ (by decide)⟩
  · skip
    clear HBW
    refine steps_cons ?_ ?_
    · rintro b a w' ⟨X1, lo1, hi1, X2, lo2, hi2, X3, lo3, hi3, g1, g2, g3, m1_, m3_, m5_, m6_, m7_, m8_, ha, Q_HBW, Q_Fg1, Q_Fg2, Q_Fg3, Q_Ng1g2, Q_Ng1g3, Q_Ng2g3, Q_Sg1, Q_Sg2, Q_Sg3, Q_NW1, Q_NW2, Q_OR12, Q_NW3, Q_OR13, Q_OR23, Q_X1_, Q_X3_, Q_X5_, Q_X6_, Q_X7_, Q_X8_⟩ hb_ hon hoff
      refine ⟨_, rfl, fun K hK => ?_⟩
      have e6 : a.tmps[6]? = some (.pointer (some ⟨w.heap.size, 0, none⟩)) := by rw [ha]; exact (putSel_off rfl).trans rfl
      replace ha := Aside0.mk ha
      have HBW := Aside0.mk Q_HBW
      have k0_ := (blk_cell (blk_below HBX.out HBW.out) 0).trans rfl
      have k1_ := (blk_cell (blk_below HBX.out HBW.out) 1).trans rfl
      have k2_ := (blk_cell (blk_below HBX.out HBW.out) 2).trans rfl
      have k3_ := (blk_cell (blk_below HBX.out HBW.out) 3).trans rfl
      refine value_ (w1 := w') (v := .agg #[.slice a0.A0 a0.st.length a0.c0, .slice a0.A1 a0.ri.length a0.c1, .slice a0.A2 a0.ca.length a0.c2, .slice a0.A3 a0.su.length a0.c3]) (by rfl) rfl ?_ ?_
      · go_simp
        (try simp only [i64_w])
        try rfl
      refine hK.out _ _ ⟨X1, lo1, hi1, X2, lo2, hi2, X3, lo3, hi3, g1, g2, g3, m1_, m3_, m5_, m6_, m7_, m8_, (by rw [ha.out]; exact putSel_upk 0 hb_ rfl rfl rfl), Q_HBW, Q_Fg1, Q_Fg2, Q_Fg3, Q_Ng1g2, Q_Ng1g3, Q_Ng2g3, fun h0_ => absurd ((hoff 9 (by kernel_rfl)).symm.trans h0_) (by decide), fun h0_ => absurd ((hoff 10 (by kernel_rfl)).symm.trans h0_) (by decide), fun h0_ => absurd ((hoff 11 (by kernel_rfl)).symm.trans h0_) (by decide), fun h0_ => absurd ((hoff 1 (by kernel_rfl)).symm.trans h0_) (by decide), fun h0_ => absurd ((hoff 3 (by kernel_rfl)).symm.trans h0_) (by decide), fun h0_ _ => absurd ((hoff 1 (by kernel_rfl)).symm.trans h0_) (by decide), fun h0_ => absurd ((hoff 5 (by kernel_rfl)).symm.trans h0_) (by decide), fun h0_ _ => absurd ((hoff 1 (by kernel_rfl)).symm.trans h0_) (by decide), fun h0_ _ => absurd ((hoff 3 (by kernel_rfl)).symm.trans h0_) (by decide), fun h0_ => absurd ((hoff 1 (by kernel_rfl)).symm.trans h0_) (by decide), fun h0_ => absurd ((hoff 3 (by kernel_rfl)).symm.trans h0_) (by decide), fun h0_ => absurd ((hoff 5 (by kernel_rfl)).symm.trans h0_) (by decide), Q_X6_, Q_X7_, Q_X8_⟩
    refine steps_cons ?_ ?_
    · rintro b a w' ⟨X1, lo1, hi1, X2, lo2, hi2, X3, lo3, hi3, g1, g2, g3, m1_, m3_, m5_, m6_, m7_, m8_, ha, Q_HBW, Q_Fg1, Q_Fg2, Q_Fg3, Q_Ng1g2, Q_Ng1g3, Q_Ng2g3, Q_Sg1, Q_Sg2, Q_Sg3, Q_NW1, Q_NW2, Q_OR12, Q_NW3, Q_OR13, Q_OR23, Q_X1_, Q_X3_, Q_X5_, Q_X6_, Q_X7_, Q_X8_⟩ hb_ hon hoff
      refine ⟨_, rfl, fun K hK => ?_⟩
      have e47 : a.tmps[47]? = some (.agg #[.slice a0.A0 a0.st.length a0.c0, .slice a0.A1 a0.ri.length a0.c1, .slice a0.A2 a0.ca.length a0.c2, .slice a0.A3 a0.su.length a0.c3]) := by rw [ha]; exact putSel_on (e := (0, 47, .agg #[.slice a0.A0 a0.st.length a0.c0, .slice a0.A1 a0.ri.length a0.c1, .slice a0.A2 a0.ca.length a0.c2, .slice a0.A3 a0.su.length a0.c3])) 0 rfl rfl (hon 0 (by kernel_rfl)) rfl
      replace ha := Aside0.mk ha
      have HBW := Aside0.mk Q_HBW
      refine call_ 32 #[.agg #[.slice a0.A0 a0.st.length a0.c0, .slice a0.A1 a0.ri.length a0.c1, .slice a0.A2 a0.ca.length a0.c2, .slice a0.A3 a0.su.length a0.c3]] (by rfl) rfl (by go_simp) ?_
      refine (copied_v a0 w' (HI.out.below (bt HB.out HBW.out)) (by omega) (by omega) (by omega) HCC.out (by omega)).mono ?_
      rintro e w2 ⟨B0, e0_, B1, e1_, B2, e2_, B3, e3_, rfl, hOw, hbb⟩
      refine ⟨_, rfl, ?_⟩
      refine hK.out _ _ ⟨(Rv.mk a0.st a0.ri a0.ca a0.su B0 B1 B2 B3 e0_ e1_ e2_ e3_), w'.heap.size, w2.heap.size, X2, lo2, hi2, X3, lo3, hi3, g1, g2, g3, (.agg #[.slice (Rv.mk a0.st a0.ri a0.ca a0.su B0 B1 B2 B3 e0_ e1_ e2_ e3_).A0 (Rv.mk a0.st a0.ri a0.ca a0.su B0 B1 B2 B3 e0_ e1_ e2_ e3_).st.length (Rv.mk a0.st a0.ri a0.ca a0.su B0 B1 B2 B3 e0_ e1_ e2_ e3_).c0, .slice (Rv.mk a0.st a0.ri a0.ca a0.su B0 B1 B2 B3 e0_ e1_ e2_ e3_).A1 (Rv.mk a0.st a0.ri a0.ca a0.su B0 B1 B2 B3 e0_ e1_ e2_ e3_).ri.length (Rv.mk a0.st a0.ri a0.ca a0.su B0 B1 B2 B3 e0_ e1_ e2_ e3_).c1, .slice (Rv.mk a0.st a0.ri a0.ca a0.su B0 B1 B2 B3 e0_ e1_ e2_ e3_).A2 (Rv.mk a0.st a0.ri a0.ca a0.su B0 B1 B2 B3 e0_ e1_ e2_ e3_).ca.length (Rv.mk a0.st a0.ri a0.ca a0.su B0 B1 B2 B3 e0_ e1_ e2_ e3_).c2, .slice (Rv.mk a0.st a0.ri a0.ca a0.su B0 B1 B2 B3 e0_ e1_ e2_ e3_).A3 (Rv.mk a0.st a0.ri a0.ca a0.su B0 B1 B2 B3 e0_ e1_ e2_ e3_).su.length (Rv.mk a0.st a0.ri a0.ca a0.su B0 B1 B2 B3 e0_ e1_ e2_ e3_).c3]), m3_, m5_, m6_, m7_, m8_, (by rw [ha.out]; exact putSel_upk 1 hb_ rfl rfl rfl), bt HBW.out hbb, fun h0_ => ⟨(Q_Fg1 h0_).1, (fun ⟨u0, u1, u2, u3, h⟩ => ⟨u0, u1, u2, u3, blk_below h hbb⟩) (Q_Fg1 h0_).2⟩, fun h0_ => ⟨(Q_Fg2 h0_).1, (fun ⟨u0, u1, u2, u3, h⟩ => ⟨u0, u1, u2, u3, blk_below h hbb⟩) (Q_Fg2 h0_).2⟩, fun h0_ => ⟨(Q_Fg3 h0_).1, (fun ⟨u0, u1, u2, u3, h⟩ => ⟨u0, u1, u2, u3, blk_below h hbb⟩) (Q_Fg3 h0_).2⟩, fun h0_ h1_ => (Q_Ng1g2 h0_ h1_), fun h0_ h1_ => (Q_Ng1g3 h0_ h1_), fun h0_ h1_ => (Q_Ng2g3 h0_ h1_), fun h0_ => absurd ((hoff 9 (by kernel_rfl)).symm.trans h0_) (by decide), fun h0_ => absurd ((hoff 10 (by kernel_rfl)).symm.trans h0_) (by decide), fun h0_ => absurd ((hoff 11 (by kernel_rfl)).symm.trans h0_) (by decide), fun _ => New.mk_ hOw HBW.out.size (Nat.le_trans HB.out.size HBW.out.size), fun h0_ => absurd ((hoff 3 (by kernel_rfl)).symm.trans h0_) (by decide), fun _ h1_ => absurd ((hoff 3 (by kernel_rfl)).symm.trans h1_) (by decide), fun h0_ => absurd ((hoff 5 (by kernel_rfl)).symm.trans h0_) (by decide), fun _ h1_ => absurd ((hoff 5 (by kernel_rfl)).symm.trans h1_) (by decide), fun h0_ _ => absurd ((hoff 3 (by kernel_rfl)).symm.trans h0_) (by decide), fun _ => rfl, fun h0_ => absurd ((hoff 3 (by kernel_rfl)).symm.trans h0_) (by decide), fun h0_ => absurd ((hoff 5 (by kernel_rfl)).symm.trans h0_) (by decide), Q_X6_, Q_X7_, Q_X8_⟩
    refine steps_cons ?_ ?_
    · rintro b a w' ⟨X1, lo1, hi1, X2, lo2, hi2, X3, lo3, hi3, g1, g2, g3, m1_, m3_, m5_, m6_, m7_, m8_, ha, Q_HBW, Q_Fg1, Q_Fg2, Q_Fg3, Q_Ng1g2, Q_Ng1g3, Q_Ng2g3, Q_Sg1, Q_Sg2, Q_Sg3, Q_NW1, Q_NW2, Q_OR12, Q_NW3, Q_OR13, Q_OR23, Q_X1_, Q_X3_, Q_X5_, Q_X6_, Q_X7_, Q_X8_⟩ hb_ hon hoff
      refine ⟨_, rfl, fun K hK => ?_⟩
      have e6 : a.tmps[6]? = some (.pointer (some ⟨w.heap.size, 0, none⟩)) := by rw [ha]; exact (putSel_off rfl).trans rfl
      replace ha := Aside0.mk ha
      have HBW := Aside0.mk Q_HBW
      have k0_ := (blk_cell (blk_below HBX.out HBW.out) 0).trans rfl
      have k1_ := (blk_cell (blk_below HBX.out HBW.out) 1).trans rfl
      have k2_ := (blk_cell (blk_below HBX.out HBW.out) 2).trans rfl
      have k3_ := (blk_cell (blk_below HBX.out HBW.out) 3).trans rfl
      refine value_ (w1 := w') (v := .agg #[.slice a0.A0 a0.st.length a0.c0, .slice a0.A1 a0.ri.length a0.c1, .slice a0.A2 a0.ca.length a0.c2, .slice a0.A3 a0.su.length a0.c3]) (by rfl) rfl ?_ ?_
      · go_simp
        (try simp only [i64_w])
        try rfl
      refine hK.out _ _ ⟨X1, lo1, hi1, X2, lo2, hi2, X3, lo3, hi3, g1, g2, g3, m1_, m3_, m5_, m6_, m7_, m8_, (by rw [ha.out]; exact putSel_upk 2 hb_ rfl rfl rfl), Q_HBW, Q_Fg1, Q_Fg2, Q_Fg3, Q_Ng1g2, Q_Ng1g3, Q_Ng2g3, fun h0_ => absurd ((hoff 9 (by kernel_rfl)).symm.trans h0_) (by decide), fun h0_ => absurd ((hoff 10 (by kernel_rfl)).symm.trans h0_) (by decide), fun h0_ => absurd ((hoff 11 (by kernel_rfl)).symm.trans h0_) (by decide), Q_NW1, fun h0_ => absurd ((hoff 3 (by kernel_rfl)).symm.trans h0_) (by decide), fun _ h1_ => absurd ((hoff 3 (by kernel_rfl)).symm.trans h1_) (by decide), fun h0_ => absurd ((hoff 5 (by kernel_rfl)).symm.trans h0_) (by decide), fun _ h1_ => absurd ((hoff 5 (by kernel_rfl)).symm.trans h1_) (by decide), fun h0_ _ => absurd ((hoff 3 (by kernel_rfl)).symm.trans h0_) (by decide), Q_X1_, fun h0_ => absurd ((hoff 3 (by kernel_rfl)).symm.trans h0_) (by decide), fun h0_ => absurd ((hoff 5 (by kernel_rfl)).symm.trans h0_) (by decide), Q_X6_, Q_X7_, Q_X8_⟩
    refine steps_cons ?_ ?_
    · rintro b a w' ⟨X1, lo1, hi1, X2, lo2, hi2, X3, lo3, hi3, g1, g2, g3, m1_, m3_, m5_, m6_, m7_, m8_, ha, Q_HBW, Q_Fg1, Q_Fg2, Q_Fg3, Q_Ng1g2, Q_Ng1g3, Q_Ng2g3, Q_Sg1, Q_Sg2, Q_Sg3, Q_NW1, Q_NW2, Q_OR12, Q_NW3, Q_OR13, Q_OR23, Q_X1_, Q_X3_, Q_X5_, Q_X6_, Q_X7_, Q_X8_⟩ hb_ hon hoff
      refine ⟨_, rfl, fun K hK => ?_⟩
      have e49 : a.tmps[49]? = some (.agg #[.slice a0.A0 a0.st.length a0.c0, .slice a0.A1 a0.ri.length a0.c1, .slice a0.A2 a0.ca.length a0.c2, .slice a0.A3 a0.su.length a0.c3]) := by rw [ha]; exact putSel_on (e := (2, 49, .agg #[.slice a0.A0 a0.st.length a0.c0, .slice a0.A1 a0.ri.length a0.c1, .slice a0.A2 a0.ca.length a0.c2, .slice a0.A3 a0.su.length a0.c3])) 2 rfl rfl (hon 2 (by kernel_rfl)) rfl
      replace ha := Aside0.mk ha
      have HBW := Aside0.mk Q_HBW
      have NW1 := Aside0.mk (Q_NW1 (hon 1 (by kernel_rfl)))
      refine call_ 32 #[.agg #[.slice a0.A0 a0.st.length a0.c0, .slice a0.A1 a0.ri.length a0.c1, .slice a0.A2 a0.ca.length a0.c2, .slice a0.A3 a0.su.length a0.c3]] (by rfl) rfl (by go_simp) ?_
      refine (copied_v a0 w' (HI.out.below (bt HB.out HBW.out)) (by omega) (by omega) (by omega) HCC.out (by omega)).mono ?_
      rintro e w2 ⟨B0, e0_, B1, e1_, B2, e2_, B3, e3_, rfl, hOw, hbb⟩
      refine ⟨_, rfl, ?_⟩
      refine hK.out _ _ ⟨X1, lo1, hi1, (Rv.mk a0.st a0.ri a0.ca a0.su B0 B1 B2 B3 e0_ e1_ e2_ e3_), w'.heap.size, w2.heap.size, X3, lo3, hi3, g1, g2, g3, m1_, (.agg #[.slice (Rv.mk a0.st a0.ri a0.ca a0.su B0 B1 B2 B3 e0_ e1_ e2_ e3_).A0 (Rv.mk a0.st a0.ri a0.ca a0.su B0 B1 B2 B3 e0_ e1_ e2_ e3_).st.length (Rv.mk a0.st a0.ri a0.ca a0.su B0 B1 B2 B3 e0_ e1_ e2_ e3_).c0, .slice (Rv.mk a0.st a0.ri a0.ca a0.su B0 B1 B2 B3 e0_ e1_ e2_ e3_).A1 (Rv.mk a0.st a0.ri a0.ca a0.su B0 B1 B2 B3 e0_ e1_ e2_ e3_).ri.length (Rv.mk a0.st a0.ri a0.ca a0.su B0 B1 B2 B3 e0_ e1_ e2_ e3_).c1, .slice (Rv.mk a0.st a0.ri a0.ca a0.su B0 B1 B2 B3 e0_ e1_ e2_ e3_).A2 (Rv.mk a0.st a0.ri a0.ca a0.su B0 B1 B2 B3 e0_ e1_ e2_ e3_).ca.length (Rv.mk a0.st a0.ri a0.ca a0.su B0 B1 B2 B3 e0_ e1_ e2_ e3_).c2, .slice (Rv.mk a0.st a0.ri a0.ca a0.su B0 B1 B2 B3 e0_ e1_ e2_ e3_).A3 (Rv.mk a0.st a0.ri a0.ca a0.su B0 B1 B2 B3 e0_ e1_ e2_ e3_).su.length (Rv.mk a0.st a0.ri a0.ca a0.su B0 B1 B2 B3 e0_ e1_ e2_ e3_).c3]), m5_, m6_, m7_, m8_, (by rw [ha.out]; exact putSel_upk 3 hb_ rfl rfl rfl), bt HBW.out hbb, fun h0_ => ⟨(Q_Fg1 h0_).1, (fun ⟨u0, u1, u2, u3, h⟩ => ⟨u0, u1, u2, u3, blk_below h hbb⟩) (Q_Fg1 h0_).2⟩, fun h0_ => ⟨(Q_Fg2 h0_).1, (fun ⟨u0, u1, u2, u3, h⟩ => ⟨u0, u1, u2, u3, blk_below h hbb⟩) (Q_Fg2 h0_).2⟩, fun h0_ => ⟨(Q_Fg3 h0_).1, (fun ⟨u0, u1, u2, u3, h⟩ => ⟨u0, u1, u2, u3, blk_below h hbb⟩) (Q_Fg3 h0_).2⟩, fun h0_ h1_ => (Q_Ng1g2 h0_ h1_), fun h0_ h1_ => (Q_Ng1g3 h0_ h1_), fun h0_ h1_ => (Q_Ng2g3 h0_ h1_), fun h0_ => absurd ((hoff 9 (by kernel_rfl)).symm.trans h0_) (by decide), fun h0_ => absurd ((hoff 10 (by kernel_rfl)).symm.trans h0_) (by decide), fun h0_ => absurd ((hoff 11 (by kernel_rfl)).symm.trans h0_) (by decide), fun _ => NW1.out.below hbb, fun _ => New.mk_ hOw HBW.out.size (Nat.le_trans HB.out.size HBW.out.size), fun _ _ => NW1.out.hi_, fun h0_ => absurd ((hoff 5 (by kernel_rfl)).symm.trans h0_) (by decide), fun _ h1_ => absurd ((hoff 5 (by kernel_rfl)).symm.trans h1_) (by decide), fun _ h1_ => absurd ((hoff 5 (by kernel_rfl)).symm.trans h1_) (by decide), Q_X1_, fun _ => rfl, fun h0_ => absurd ((hoff 5 (by kernel_rfl)).symm.trans h0_) (by decide), Q_X6_, Q_X7_, Q_X8_⟩
    refine steps_cons ?_ ?_
    · rintro b a w' ⟨X1, lo1, hi1, X2, lo2, hi2, X3, lo3, hi3, g1, g2, g3, m1_, m3_, m5_, m6_, m7_, m8_, ha, Q_HBW, Q_Fg1, Q_Fg2, Q_Fg3, Q_Ng1g2, Q_Ng1g3, Q_Ng2g3, Q_Sg1, Q_Sg2, Q_Sg3, Q_NW1, Q_NW2, Q_OR12, Q_NW3, Q_OR13, Q_OR23, Q_X1_, Q_X3_, Q_X5_, Q_X6_, Q_X7_, Q_X8_⟩ hb_ hon hoff
      refine ⟨_, rfl, fun K hK => ?_⟩
      have e6 : a.tmps[6]? = some (.pointer (some ⟨w.heap.size, 0, none⟩)) := by rw [ha]; exact (putSel_off rfl).trans rfl
      replace ha := Aside0.mk ha
      have HBW := Aside0.mk Q_HBW
      have k0_ := (blk_cell (blk_below HBX.out HBW.out) 0).trans rfl
      have k1_ := (blk_cell (blk_below HBX.out HBW.out) 1).trans rfl
      have k2_ := (blk_cell (blk_below HBX.out HBW.out) 2).trans rfl
      have k3_ := (blk_cell (blk_below HBX.out HBW.out) 3).trans rfl
      refine value_ (w1 := w') (v := .agg #[.slice a0.A0 a0.st.length a0.c0, .slice a0.A1 a0.ri.length a0.c1, .slice a0.A2 a0.ca.length a0.c2, .slice a0.A3 a0.su.length a0.c3]) (by rfl) rfl ?_ ?_
      · go_simp
        (try simp only [i64_w])
        try rfl
      refine hK.out _ _ ⟨X1, lo1, hi1, X2, lo2, hi2, X3, lo3, hi3, g1, g2, g3, m1_, m3_, m5_, m6_, m7_, m8_, (by rw [ha.out]; exact putSel_upk 4 hb_ rfl rfl rfl), Q_HBW, Q_Fg1, Q_Fg2, Q_Fg3, Q_Ng1g2, Q_Ng1g3, Q_Ng2g3, fun h0_ => absurd ((hoff 9 (by kernel_rfl)).symm.trans h0_) (by decide), fun h0_ => absurd ((hoff 10 (by kernel_rfl)).symm.trans h0_) (by decide), fun h0_ => absurd ((hoff 11 (by kernel_rfl)).symm.trans h0_) (by decide), Q_NW1, Q_NW2, Q_OR12, fun h0_ => absurd ((hoff 5 (by kernel_rfl)).symm.trans h0_) (by decide), fun _ h1_ => absurd ((hoff 5 (by kernel_rfl)).symm.trans h1_) (by decide), fun _ h1_ => absurd ((hoff 5 (by kernel_rfl)).symm.trans h1_) (by decide), Q_X1_, Q_X3_, fun h0_ => absurd ((hoff 5 (by kernel_rfl)).symm.trans h0_) (by decide), Q_X6_, Q_X7_, Q_X8_⟩
    refine steps_cons ?_ ?_
    · rintro b a w' ⟨X1, lo1, hi1, X2, lo2, hi2, X3, lo3, hi3, g1, g2, g3, m1_, m3_, m5_, m6_, m7_, m8_, ha, Q_HBW, Q_Fg1, Q_Fg2, Q_Fg3, Q_Ng1g2, Q_Ng1g3, Q_Ng2g3, Q_Sg1, Q_Sg2, Q_Sg3, Q_NW1, Q_NW2, Q_OR12, Q_NW3, Q_OR13, Q_OR23, Q_X1_, Q_X3_, Q_X5_, Q_X6_, Q_X7_, Q_X8_⟩ hb_ hon hoff
      refine ⟨_, rfl, fun K hK => ?_⟩
      have e51 : a.tmps[51]? = some (.agg #[.slice a0.A0 a0.st.length a0.c0, .slice a0.A1 a0.ri.length a0.c1, .slice a0.A2 a0.ca.length a0.c2, .slice a0.A3 a0.su.length a0.c3]) := by rw [ha]; exact putSel_on (e := (4, 51, .agg #[.slice a0.A0 a0.st.length a0.c0, .slice a0.A1 a0.ri.length a0.c1, .slice a0.A2 a0.ca.length a0.c2, .slice a0.A3 a0.su.length a0.c3])) 4 rfl rfl (hon 4 (by kernel_rfl)) rfl
      replace ha := Aside0.mk ha
      have HBW := Aside0.mk Q_HBW
      have NW1 := Aside0.mk (Q_NW1 (hon 1 (by kernel_rfl)))
      have NW2 := Aside0.mk (Q_NW2 (hon 3 (by kernel_rfl)))
      have OR12 := Aside0.mk (Q_OR12 (hon 1 (by kernel_rfl)) (hon 3 (by kernel_rfl)))
      refine call_ 32 #[.agg #[.slice a0.A0 a0.st.length a0.c0, .slice a0.A1 a0.ri.length a0.c1, .slice a0.A2 a0.ca.length a0.c2, .slice a0.A3 a0.su.length a0.c3]] (by rfl) rfl (by go_simp) ?_
      refine (copied_v a0 w' (HI.out.below (bt HB.out HBW.out)) (by omega) (by omega) (by omega) HCC.out (by omega)).mono ?_
      rintro e w2 ⟨B0, e0_, B1, e1_, B2, e2_, B3, e3_, rfl, hOw, hbb⟩
      refine ⟨_, rfl, ?_⟩
      refine hK.out _ _ ⟨X1, lo1, hi1, X2, lo2, hi2, (Rv.mk a0.st a0.ri a0.ca a0.su B0 B1 B2 B3 e0_ e1_ e2_ e3_), w'.heap.size, w2.heap.size, g1, g2, g3, m1_, m3_, (.agg #[.slice (Rv.mk a0.st a0.ri a0.ca a0.su B0 B1 B2 B3 e0_ e1_ e2_ e3_).A0 (Rv.mk a0.st a0.ri a0.ca a0.su B0 B1 B2 B3 e0_ e1_ e2_ e3_).st.length (Rv.mk a0.st a0.ri a0.ca a0.su B0 B1 B2 B3 e0_ e1_ e2_ e3_).c0, .slice (Rv.mk a0.st a0.ri a0.ca a0.su B0 B1 B2 B3 e0_ e1_ e2_ e3_).A1 (Rv.mk a0.st a0.ri a0.ca a0.su B0 B1 B2 B3 e0_ e1_ e2_ e3_).ri.length (Rv.mk a0.st a0.ri a0.ca a0.su B0 B1 B2 B3 e0_ e1_ e2_ e3_).c1, .slice (Rv.mk a0.st a0.ri a0.ca a0.su B0 B1 B2 B3 e0_ e1_ e2_ e3_).A2 (Rv.mk a0.st a0.ri a0.ca a0.su B0 B1 B2 B3 e0_ e1_ e2_ e3_).ca.length (Rv.mk a0.st a0.ri a0.ca a0.su B0 B1 B2 B3 e0_ e1_ e2_ e3_).c2, .slice (Rv.mk a0.st a0.ri a0.ca a0.su B0 B1 B2 B3 e0_ e1_ e2_ e3_).A3 (Rv.mk a0.st a0.ri a0.ca a0.su B0 B1 B2 B3 e0_ e1_ e2_ e3_).su.length (Rv.mk a0.st a0.ri a0.ca a0.su B0 B1 B2 B3 e0_ e1_ e2_ e3_).c3]), m6_, m7_, m8_, (by rw [ha.out]; exact putSel_upk 5 hb_ rfl rfl rfl), bt HBW.out hbb, fun h0_ => ⟨(Q_Fg1 h0_).1, (fun ⟨u0, u1, u2, u3, h⟩ => ⟨u0, u1, u2, u3, blk_below h hbb⟩) (Q_Fg1 h0_).2⟩, fun h0_ => ⟨(Q_Fg2 h0_).1, (fun ⟨u0, u1, u2, u3, h⟩ => ⟨u0, u1, u2, u3, blk_below h hbb⟩) (Q_Fg2 h0_).2⟩, fun h0_ => ⟨(Q_Fg3 h0_).1, (fun ⟨u0, u1, u2, u3, h⟩ => ⟨u0, u1, u2, u3, blk_below h hbb⟩) (Q_Fg3 h0_).2⟩, fun h0_ h1_ => (Q_Ng1g2 h0_ h1_), fun h0_ h1_ => (Q_Ng1g3 h0_ h1_), fun h0_ h1_ => (Q_Ng2g3 h0_ h1_), fun h0_ => absurd ((hoff 9 (by kernel_rfl)).symm.trans h0_) (by decide), fun h0_ => absurd ((hoff 10 (by kernel_rfl)).symm.trans h0_) (by decide), fun h0_ => absurd ((hoff 11 (by kernel_rfl)).symm.trans h0_) (by decide), fun _ => NW1.out.below hbb, fun _ => NW2.out.below hbb, Q_OR12, fun _ => New.mk_ hOw HBW.out.size (Nat.le_trans HB.out.size HBW.out.size), fun _ _ => NW1.out.hi_, fun _ _ => NW2.out.hi_, Q_X1_, Q_X3_, fun _ => rfl, Q_X6_, Q_X7_, Q_X8_⟩
    refine steps_cons ?_ ?_
    · rintro b a w' ⟨X1, lo1, hi1, X2, lo2, hi2, X3, lo3, hi3, g1, g2, g3, m1_, m3_, m5_, m6_, m7_, m8_, ha, Q_HBW, Q_Fg1, Q_Fg2, Q_Fg3, Q_Ng1g2, Q_Ng1g3, Q_Ng2g3, Q_Sg1, Q_Sg2, Q_Sg3, Q_NW1, Q_NW2, Q_OR12, Q_NW3, Q_OR13, Q_OR23, Q_X1_, Q_X3_, Q_X5_, Q_X6_, Q_X7_, Q_X8_⟩ hb_ hon hoff
      refine ⟨_, rfl, fun K hK => ?_⟩
      replace ha := Aside0.mk ha
      have HBW := Aside0.mk Q_HBW
      refine value_ (w1 := w'.alloc (.cells #[.slice none 0 0, .slice none 0 0, .slice none 0 0, .slice none 0 0] 27)) (v := .pointer (some ⟨w'.heap.size, 0, none⟩)) (by rfl) rfl (by go_simp) ?_
      have hbb := b1 w' (.cells #[.slice none 0 0, .slice none 0 0, .slice none 0 0, .slice none 0 0] 27)
      have z_Ng1g2 := fun (h0_ : up b 6 6 = true) (h1_ : up b 6 7 = true) => (show w'.heap.size ≠ g2 from fun h => by obtain ⟨_, _, _, _, _, h2⟩ := Q_Fg2 h1_; exact absurd (blk_lt h2) (h ▸ Nat.lt_irrefl _))
      have z_Ng1g3 := fun (h0_ : up b 6 6 = true) (h1_ : up b 6 8 = true) => (show w'.heap.size ≠ g3 from fun h => by obtain ⟨_, _, _, _, _, h2⟩ := Q_Fg3 h1_; exact absurd (blk_lt h2) (h ▸ Nat.lt_irrefl _))
      refine hK.out _ _ ⟨X1, lo1, hi1, X2, lo2, hi2, X3, lo3, hi3, w'.heap.size, g2, g3, m1_, m3_, m5_, (.pointer (some ⟨w'.heap.size, 0, none⟩)), m7_, m8_, (by rw [ha.out]; exact putSel_upk 6 hb_ rfl rfl rfl), bt HBW.out hbb, fun _ => ⟨HBW.out.size, _, _, _, _, blk_new _ _⟩, fun h0_ => ⟨(Q_Fg2 h0_).1, (fun ⟨u0, u1, u2, u3, h⟩ => ⟨u0, u1, u2, u3, blk_below h hbb⟩) (Q_Fg2 h0_).2⟩, fun h0_ => ⟨(Q_Fg3 h0_).1, (fun ⟨u0, u1, u2, u3, h⟩ => ⟨u0, u1, u2, u3, blk_below h hbb⟩) (Q_Fg3 h0_).2⟩, z_Ng1g2, z_Ng1g3, fun h0_ h1_ => (Q_Ng2g3 h0_ h1_), fun h0_ => absurd ((hoff 9 (by kernel_rfl)).symm.trans h0_) (by decide), fun h0_ => absurd ((hoff 10 (by kernel_rfl)).symm.trans h0_) (by decide), fun h0_ => absurd ((hoff 11 (by kernel_rfl)).symm.trans h0_) (by decide), fun h0_ => (Q_NW1 h0_).below hbb, fun h0_ => (Q_NW2 h0_).below hbb, Q_OR12, fun h0_ => (Q_NW3 h0_).below hbb, Q_OR13, Q_OR23, Q_X1_, Q_X3_, Q_X5_, fun _ => rfl, Q_X7_, Q_X8_⟩
    refine steps_cons ?_ ?_
    · rintro b a w' ⟨X1, lo1, hi1, X2, lo2, hi2, X3, lo3, hi3, g1, g2, g3, m1_, m3_, m5_, m6_, m7_, m8_, ha, Q_HBW, Q_Fg1, Q_Fg2, Q_Fg3, Q_Ng1g2, Q_Ng1g3, Q_Ng2g3, Q_Sg1, Q_Sg2, Q_Sg3, Q_NW1, Q_NW2, Q_OR12, Q_NW3, Q_OR13, Q_OR23, Q_X1_, Q_X3_, Q_X5_, Q_X6_, Q_X7_, Q_X8_⟩ hb_ hon hoff
      refine ⟨_, rfl, fun K hK => ?_⟩
      replace ha := Aside0.mk ha
      have HBW := Aside0.mk Q_HBW
      refine value_ (w1 := w'.alloc (.cells #[.slice none 0 0, .slice none 0 0, .slice none 0 0, .slice none 0 0] 27)) (v := .pointer (some ⟨w'.heap.size, 0, none⟩)) (by rfl) rfl (by go_simp) ?_
      have hbb := b1 w' (.cells #[.slice none 0 0, .slice none 0 0, .slice none 0 0, .slice none 0 0] 27)
      have z_Ng1g2 := fun (h0_ : up b 7 6 = true) (h1_ : up b 7 7 = true) => (show g1 ≠ w'.heap.size from fun h => by obtain ⟨_, _, _, _, _, h2⟩ := Q_Fg1 h0_; exact absurd (blk_lt h2) (h ▸ Nat.lt_irrefl _))
      have z_Ng2g3 := fun (h0_ : up b 7 7 = true) (h1_ : up b 7 8 = true) => (show w'.heap.size ≠ g3 from fun h => by obtain ⟨_, _, _, _, _, h2⟩ := Q_Fg3 h1_; exact absurd (blk_lt h2) (h ▸ Nat.lt_irrefl _))
      refine hK.out _ _ ⟨X1, lo1, hi1, X2, lo2, hi2, X3, lo3, hi3, g1, w'.heap.size, g3, m1_, m3_, m5_, m6_, (.pointer (some ⟨w'.heap.size, 0, none⟩)), m8_, (by rw [ha.out]; exact putSel_upk 7 hb_ rfl rfl rfl), bt HBW.out hbb, fun h0_ => ⟨(Q_Fg1 h0_).1, (fun ⟨u0, u1, u2, u3, h⟩ => ⟨u0, u1, u2, u3, blk_below h hbb⟩) (Q_Fg1 h0_).2⟩, fun _ => ⟨HBW.out.size, _, _, _, _, blk_new _ _⟩, fun h0_ => ⟨(Q_Fg3 h0_).1, (fun ⟨u0, u1, u2, u3, h⟩ => ⟨u0, u1, u2, u3, blk_below h hbb⟩) (Q_Fg3 h0_).2⟩, z_Ng1g2, fun h0_ h1_ => (Q_Ng1g3 h0_ h1_), z_Ng2g3, fun h0_ => absurd ((hoff 9 (by kernel_rfl)).symm.trans h0_) (by decide), fun h0_ => absurd ((hoff 10 (by kernel_rfl)).symm.trans h0_) (by decide), fun h0_ => absurd ((hoff 11 (by kernel_rfl)).symm.trans h0_) (by decide), fun h0_ => (Q_NW1 h0_).below hbb, fun h0_ => (Q_NW2 h0_).below hbb, Q_OR12, fun h0_ => (Q_NW3 h0_).below hbb, Q_OR13, Q_OR23, Q_X1_, Q_X3_, Q_X5_, Q_X6_, fun _ => rfl, Q_X8_⟩
    refine steps_cons ?_ ?_
    · rintro b a w' ⟨X1, lo1, hi1, X2, lo2, hi2, X3, lo3, hi3, g1, g2, g3, m1_, m3_, m5_, m6_, m7_, m8_, ha, Q_HBW, Q_Fg1, Q_Fg2, Q_Fg3, Q_Ng1g2, Q_Ng1g3, Q_Ng2g3, Q_Sg1, Q_Sg2, Q_Sg3, Q_NW1, Q_NW2, Q_OR12, Q_NW3, Q_OR13, Q_OR23, Q_X1_, Q_X3_, Q_X5_, Q_X6_, Q_X7_, Q_X8_⟩ hb_ hon hoff
      refine ⟨_, rfl, fun K hK => ?_⟩
      replace ha := Aside0.mk ha
      have HBW := Aside0.mk Q_HBW
      refine value_ (w1 := w'.alloc (.cells #[.slice none 0 0, .slice none 0 0, .slice none 0 0, .slice none 0 0] 27)) (v := .pointer (some ⟨w'.heap.size, 0, none⟩)) (by rfl) rfl (by go_simp) ?_
      have hbb := b1 w' (.cells #[.slice none 0 0, .slice none 0 0, .slice none 0 0, .slice none 0 0] 27)
      have z_Ng1g3 := fun (h0_ : up b 8 6 = true) (h1_ : up b 8 8 = true) => (show g1 ≠ w'.heap.size from fun h => by obtain ⟨_, _, _, _, _, h2⟩ := Q_Fg1 h0_; exact absurd (blk_lt h2) (h ▸ Nat.lt_irrefl _))
      have z_Ng2g3 := fun (h0_ : up b 8 7 = true) (h1_ : up b 8 8 = true) => (show g2 ≠ w'.heap.size from fun h => by obtain ⟨_, _, _, _, _, h2⟩ := Q_Fg2 h0_; exact absurd (blk_lt h2) (h ▸ Nat.lt_irrefl _))
      refine hK.out _ _ ⟨X1, lo1, hi1, X2, lo2, hi2, X3, lo3, hi3, g1, g2, w'.heap.size, m1_, m3_, m5_, m6_, m7_, (.pointer (some ⟨w'.heap.size, 0, none⟩)), (by rw [ha.out]; exact putSel_upk 8 hb_ rfl rfl rfl), bt HBW.out hbb, fun h0_ => ⟨(Q_Fg1 h0_).1, (fun ⟨u0, u1, u2, u3, h⟩ => ⟨u0, u1, u2, u3, blk_below h hbb⟩) (Q_Fg1 h0_).2⟩, fun h0_ => ⟨(Q_Fg2 h0_).1, (fun ⟨u0, u1, u2, u3, h⟩ => ⟨u0, u1, u2, u3, blk_below h hbb⟩) (Q_Fg2 h0_).2⟩, fun _ => ⟨HBW.out.size, _, _, _, _, blk_new _ _⟩, fun h0_ h1_ => (Q_Ng1g2 h0_ h1_), z_Ng1g3, z_Ng2g3, fun h0_ => absurd ((hoff 9 (by kernel_rfl)).symm.trans h0_) (by decide), fun h0_ => absurd ((hoff 10 (by kernel_rfl)).symm.trans h0_) (by decide), fun h0_ => absurd ((hoff 11 (by kernel_rfl)).symm.trans h0_) (by decide), fun h0_ => (Q_NW1 h0_).below hbb, fun h0_ => (Q_NW2 h0_).below hbb, Q_OR12, fun h0_ => (Q_NW3 h0_).below hbb, Q_OR13, Q_OR23, Q_X1_, Q_X3_, Q_X5_, Q_X6_, Q_X7_, fun _ => rfl⟩
    refine steps_cons ?_ ?_
    · rintro b a w' ⟨X1, lo1, hi1, X2, lo2, hi2, X3, lo3, hi3, g1, g2, g3, m1_, m3_, m5_, m6_, m7_, m8_, ha, Q_HBW, Q_Fg1, Q_Fg2, Q_Fg3, Q_Ng1g2, Q_Ng1g3, Q_Ng2g3, Q_Sg1, Q_Sg2, Q_Sg3, Q_NW1, Q_NW2, Q_OR12, Q_NW3, Q_OR13, Q_OR23, Q_X1_, Q_X3_, Q_X5_, Q_X6_, Q_X7_, Q_X8_⟩ hb_ hon hoff
      refine ⟨_, rfl, fun K hK => ?_⟩
      have e16 : a.tmps[16]? = some (m6_) := by rw [ha]; exact putSel_on (e := (6, 16, m6_)) 6 rfl rfl (hon 6 (by kernel_rfl)) rfl
      rw [Q_X6_ (hon 6 (by kernel_rfl))] at e16
      have e48 : a.tmps[48]? = some (m1_) := by rw [ha]; exact putSel_on (e := (1, 48, m1_)) 1 rfl rfl (hon 1 (by kernel_rfl)) rfl
      rw [Q_X1_ (hon 1 (by kernel_rfl))] at e48
      replace ha := Aside0.mk ha
      have HBW := Aside0.mk Q_HBW
      have Fg1 := Aside0.mk (Q_Fg1 (hon 6 (by kernel_rfl)))
      have Fg2 := Aside0.mk (Q_Fg2 (hon 7 (by kernel_rfl)))
      have Fg3 := Aside0.mk (Q_Fg3 (hon 8 (by kernel_rfl)))
      have Ng1g2 := Aside0.mk (Q_Ng1g2 (hon 6 (by kernel_rfl)) (hon 7 (by kernel_rfl)))
      have Ng1g3 := Aside0.mk (Q_Ng1g3 (hon 6 (by kernel_rfl)) (hon 8 (by kernel_rfl)))
      have Ng2g3 := Aside0.mk (Q_Ng2g3 (hon 7 (by kernel_rfl)) (hon 8 (by kernel_rfl)))
      have NW1 := Aside0.mk (Q_NW1 (hon 1 (by kernel_rfl)))
      have NW2 := Aside0.mk (Q_NW2 (hon 3 (by kernel_rfl)))
      have OR12 := Aside0.mk (Q_OR12 (hon 1 (by kernel_rfl)) (hon 3 (by kernel_rfl)))
      have NW3 := Aside0.mk (Q_NW3 (hon 5 (by kernel_rfl)))
      have OR13 := Aside0.mk (Q_OR13 (hon 1 (by kernel_rfl)) (hon 5 (by kernel_rfl)))
      have OR23 := Aside0.mk (Q_OR23 (hon 3 (by kernel_rfl)) (hon 5 (by kernel_rfl)))
      obtain ⟨hgs_, u0, u1, u2, u3, gk⟩ := Fg1.out
      have c0 := (blk_cell (gk) 0).trans rfl
      have f0 := blk_frozen (gk) 0
      have c1 := (blk_cell (blk_set (gk) 0 (.slice X1.A0 X1.st.length X1.c0)) 1).trans rfl
      have f1 := blk_frozen (blk_set (gk) 0 (.slice X1.A0 X1.st.length X1.c0)) 1
      have c2 := (blk_cell (blk_set (blk_set (gk) 0 (.slice X1.A0 X1.st.length X1.c0)) 1 (.slice X1.A1 X1.ri.length X1.c1)) 2).trans rfl
      have f2 := blk_frozen (blk_set (blk_set (gk) 0 (.slice X1.A0 X1.st.length X1.c0)) 1 (.slice X1.A1 X1.ri.length X1.c1)) 2
      have c3 := (blk_cell (blk_set (blk_set (blk_set (gk) 0 (.slice X1.A0 X1.st.length X1.c0)) 1 (.slice X1.A1 X1.ri.length X1.c1)) 2 (.slice X1.A2 X1.ca.length X1.c2)) 3).trans rfl
      have f3 := blk_frozen (blk_set (blk_set (blk_set (gk) 0 (.slice X1.A0 X1.st.length X1.c0)) 1 (.slice X1.A1 X1.ri.length X1.c1)) 2 (.slice X1.A2 X1.ca.length X1.c2)) 3
      have nend := blk_set (blk_set (blk_set (blk_set (gk) 0 (.slice X1.A0 X1.st.length X1.c0)) 1 (.slice X1.A1 X1.ri.length X1.c1)) 2 (.slice X1.A2 X1.ca.length X1.c2)) 3 (.slice X1.A3 X1.su.length X1.c3)
      refine skip_ (w1 := ((((w'.setCell ⟨g1, 0, none⟩ (.slice X1.A0 X1.st.length X1.c0)).setCell ⟨g1, 1, none⟩ (.slice X1.A1 X1.ri.length X1.c1)).setCell ⟨g1, 2, none⟩ (.slice X1.A2 X1.ca.length X1.c2)).setCell ⟨g1, 3, none⟩ (.slice X1.A3 X1.su.length X1.c3))) (by rfl) rfl (by go_simp) ?_
      refine hK.out _ _ ⟨X1, lo1, hi1, X2, lo2, hi2, X3, lo3, hi3, g1, g2, g3, m1_, m3_, m5_, m6_, m7_, m8_, (by rw [ha.out]; exact putSel_none (v := undef) rfl), below_set (below_set (below_set (below_set (HBW.out) hgs_) hgs_) hgs_) hgs_, fun _ => ⟨hgs_, _, _, _, _, nend⟩, fun _ => ⟨Fg2.out.1, (fun ⟨u0, u1, u2, u3, h⟩ => ⟨u0, u1, u2, u3, blk_far (blk_far (blk_far (blk_far (h) Ng1g2.out.symm _) Ng1g2.out.symm _) Ng1g2.out.symm _) Ng1g2.out.symm _⟩) Fg2.out.2⟩, fun _ => ⟨Fg3.out.1, (fun ⟨u0, u1, u2, u3, h⟩ => ⟨u0, u1, u2, u3, blk_far (blk_far (blk_far (blk_far (h) Ng1g3.out.symm _) Ng1g3.out.symm _) Ng1g3.out.symm _) Ng1g3.out.symm _⟩) Fg3.out.2⟩, fun _ _ => Ng1g2.out, fun _ _ => Ng1g3.out, fun _ _ => Ng2g3.out, fun _ => nend, fun h0_ => absurd ((hoff 10 (by kernel_rfl)).symm.trans h0_) (by decide), fun h0_ => absurd ((hoff 11 (by kernel_rfl)).symm.trans h0_) (by decide), fun _ => New.set27 (New.set27 (New.set27 (New.set27 (NW1.out) (gk) 0 (.slice X1.A0 X1.st.length X1.c0)) (blk_set (gk) 0 (.slice X1.A0 X1.st.length X1.c0)) 1 (.slice X1.A1 X1.ri.length X1.c1)) (blk_set (blk_set (gk) 0 (.slice X1.A0 X1.st.length X1.c0)) 1 (.slice X1.A1 X1.ri.length X1.c1)) 2 (.slice X1.A2 X1.ca.length X1.c2)) (blk_set (blk_set (blk_set (gk) 0 (.slice X1.A0 X1.st.length X1.c0)) 1 (.slice X1.A1 X1.ri.length X1.c1)) 2 (.slice X1.A2 X1.ca.length X1.c2)) 3 (.slice X1.A3 X1.su.length X1.c3), fun _ => New.set27 (New.set27 (New.set27 (New.set27 (NW2.out) (gk) 0 (.slice X1.A0 X1.st.length X1.c0)) (blk_set (gk) 0 (.slice X1.A0 X1.st.length X1.c0)) 1 (.slice X1.A1 X1.ri.length X1.c1)) (blk_set (blk_set (gk) 0 (.slice X1.A0 X1.st.length X1.c0)) 1 (.slice X1.A1 X1.ri.length X1.c1)) 2 (.slice X1.A2 X1.ca.length X1.c2)) (blk_set (blk_set (blk_set (gk) 0 (.slice X1.A0 X1.st.length X1.c0)) 1 (.slice X1.A1 X1.ri.length X1.c1)) 2 (.slice X1.A2 X1.ca.length X1.c2)) 3 (.slice X1.A3 X1.su.length X1.c3), Q_OR12, fun _ => New.set27 (New.set27 (New.set27 (New.set27 (NW3.out) (gk) 0 (.slice X1.A0 X1.st.length X1.c0)) (blk_set (gk) 0 (.slice X1.A0 X1.st.length X1.c0)) 1 (.slice X1.A1 X1.ri.length X1.c1)) (blk_set (blk_set (gk) 0 (.slice X1.A0 X1.st.length X1.c0)) 1 (.slice X1.A1 X1.ri.length X1.c1)) 2 (.slice X1.A2 X1.ca.length X1.c2)) (blk_set (blk_set (blk_set (gk) 0 (.slice X1.A0 X1.st.length X1.c0)) 1 (.slice X1.A1 X1.ri.length X1.c1)) 2 (.slice X1.A2 X1.ca.length X1.c2)) 3 (.slice X1.A3 X1.su.length X1.c3), Q_OR13, Q_OR23, Q_X1_, Q_X3_, Q_X5_, Q_X6_, Q_X7_, Q_X8_⟩
    refine steps_cons ?_ ?_
    · rintro b a w' ⟨X1, lo1, hi1, X2, lo2, hi2, X3, lo3, hi3, g1, g2, g3, m1_, m3_, m5_, m6_, m7_, m8_, ha, Q_HBW, Q_Fg1, Q_Fg2, Q_Fg3, Q_Ng1g2, Q_Ng1g3, Q_Ng2g3, Q_Sg1, Q_Sg2, Q_Sg3, Q_NW1, Q_NW2, Q_OR12, Q_NW3, Q_OR13, Q_OR23, Q_X1_, Q_X3_, Q_X5_, Q_X6_, Q_X7_, Q_X8_⟩ hb_ hon hoff
      refine ⟨_, rfl, fun K hK => ?_⟩
      have e17 : a.tmps[17]? = some (m7_) := by rw [ha]; exact putSel_on (e := (7, 17, m7_)) 7 rfl rfl (hon 7 (by kernel_rfl)) rfl
      rw [Q_X7_ (hon 7 (by kernel_rfl))] at e17
      have e50 : a.tmps[50]? = some (m3_) := by rw [ha]; exact putSel_on (e := (3, 50, m3_)) 3 rfl rfl (hon 3 (by kernel_rfl)) rfl
      rw [Q_X3_ (hon 3 (by kernel_rfl))] at e50
      replace ha := Aside0.mk ha
      have HBW := Aside0.mk Q_HBW
      have Fg1 := Aside0.mk (Q_Fg1 (hon 6 (by kernel_rfl)))
      have Fg2 := Aside0.mk (Q_Fg2 (hon 7 (by kernel_rfl)))
      have Fg3 := Aside0.mk (Q_Fg3 (hon 8 (by kernel_rfl)))
      have Ng1g2 := Aside0.mk (Q_Ng1g2 (hon 6 (by kernel_rfl)) (hon 7 (by kernel_rfl)))
      have Ng1g3 := Aside0.mk (Q_Ng1g3 (hon 6 (by kernel_rfl)) (hon 8 (by kernel_rfl)))
      have Ng2g3 := Aside0.mk (Q_Ng2g3 (hon 7 (by kernel_rfl)) (hon 8 (by kernel_rfl)))
      have Sg1 := Aside0.mk (Q_Sg1 (hon 9 (by kernel_rfl)))
      have NW1 := Aside0.mk (Q_NW1 (hon 1 (by kernel_rfl)))
      have NW2 := Aside0.mk (Q_NW2 (hon 3 (by kernel_rfl)))
      have OR12 := Aside0.mk (Q_OR12 (hon 1 (by kernel_rfl)) (hon 3 (by kernel_rfl)))
      have NW3 := Aside0.mk (Q_NW3 (hon 5 (by kernel_rfl)))
      have OR13 := Aside0.mk (Q_OR13 (hon 1 (by kernel_rfl)) (hon 5 (by kernel_rfl)))
      have OR23 := Aside0.mk (Q_OR23 (hon 3 (by kernel_rfl)) (hon 5 (by kernel_rfl)))
      obtain ⟨hgs_, u0, u1, u2, u3, gk⟩ := Fg2.out
      have c0 := (blk_cell (gk) 0).trans rfl
      have f0 := blk_frozen (gk) 0
      have c1 := (blk_cell (blk_set (gk) 0 (.slice X2.A0 X2.st.length X2.c0)) 1).trans rfl
      have f1 := blk_frozen (blk_set (gk) 0 (.slice X2.A0 X2.st.length X2.c0)) 1
      have c2 := (blk_cell (blk_set (blk_set (gk) 0 (.slice X2.A0 X2.st.length X2.c0)) 1 (.slice X2.A1 X2.ri.length X2.c1)) 2).trans rfl
      have f2 := blk_frozen (blk_set (blk_set (gk) 0 (.slice X2.A0 X2.st.length X2.c0)) 1 (.slice X2.A1 X2.ri.length X2.c1)) 2
      have c3 := (blk_cell (blk_set (blk_set (blk_set (gk) 0 (.slice X2.A0 X2.st.length X2.c0)) 1 (.slice X2.A1 X2.ri.length X2.c1)) 2 (.slice X2.A2 X2.ca.length X2.c2)) 3).trans rfl
      have f3 := blk_frozen (blk_set (blk_set (blk_set (gk) 0 (.slice X2.A0 X2.st.length X2.c0)) 1 (.slice X2.A1 X2.ri.length X2.c1)) 2 (.slice X2.A2 X2.ca.length X2.c2)) 3
      have nend := blk_set (blk_set (blk_set (blk_set (gk) 0 (.slice X2.A0 X2.st.length X2.c0)) 1 (.slice X2.A1 X2.ri.length X2.c1)) 2 (.slice X2.A2 X2.ca.length X2.c2)) 3 (.slice X2.A3 X2.su.length X2.c3)
      refine skip_ (w1 := ((((w'.setCell ⟨g2, 0, none⟩ (.slice X2.A0 X2.st.length X2.c0)).setCell ⟨g2, 1, none⟩ (.slice X2.A1 X2.ri.length X2.c1)).setCell ⟨g2, 2, none⟩ (.slice X2.A2 X2.ca.length X2.c2)).setCell ⟨g2, 3, none⟩ (.slice X2.A3 X2.su.length X2.c3))) (by rfl) rfl (by go_simp) ?_
      refine hK.out _ _ ⟨X1, lo1, hi1, X2, lo2, hi2, X3, lo3, hi3, g1, g2, g3, m1_, m3_, m5_, m6_, m7_, m8_, (by rw [ha.out]; exact putSel_none (v := undef) rfl), below_set (below_set (below_set (below_set (HBW.out) hgs_) hgs_) hgs_) hgs_, fun _ => ⟨Fg1.out.1, (fun ⟨u0, u1, u2, u3, h⟩ => ⟨u0, u1, u2, u3, blk_far (blk_far (blk_far (blk_far (h) Ng1g2.out _) Ng1g2.out _) Ng1g2.out _) Ng1g2.out _⟩) Fg1.out.2⟩, fun _ => ⟨hgs_, _, _, _, _, nend⟩, fun _ => ⟨Fg3.out.1, (fun ⟨u0, u1, u2, u3, h⟩ => ⟨u0, u1, u2, u3, blk_far (blk_far (blk_far (blk_far (h) Ng2g3.out.symm _) Ng2g3.out.symm _) Ng2g3.out.symm _) Ng2g3.out.symm _⟩) Fg3.out.2⟩, fun _ _ => Ng1g2.out, fun _ _ => Ng1g3.out, fun _ _ => Ng2g3.out, fun _ => blk_far (blk_far (blk_far (blk_far (Sg1.out) Ng1g2.out _) Ng1g2.out _) Ng1g2.out _) Ng1g2.out _, fun _ => nend, fun h0_ => absurd ((hoff 11 (by kernel_rfl)).symm.trans h0_) (by decide), fun _ => New.set27 (New.set27 (New.set27 (New.set27 (NW1.out) (gk) 0 (.slice X2.A0 X2.st.length X2.c0)) (blk_set (gk) 0 (.slice X2.A0 X2.st.length X2.c0)) 1 (.slice X2.A1 X2.ri.length X2.c1)) (blk_set (blk_set (gk) 0 (.slice X2.A0 X2.st.length X2.c0)) 1 (.slice X2.A1 X2.ri.length X2.c1)) 2 (.slice X2.A2 X2.ca.length X2.c2)) (blk_set (blk_set (blk_set (gk) 0 (.slice X2.A0 X2.st.length X2.c0)) 1 (.slice X2.A1 X2.ri.length X2.c1)) 2 (.slice X2.A2 X2.ca.length X2.c2)) 3 (.slice X2.A3 X2.su.length X2.c3), fun _ => New.set27 (New.set27 (New.set27 (New.set27 (NW2.out) (gk) 0 (.slice X2.A0 X2.st.length X2.c0)) (blk_set (gk) 0 (.slice X2.A0 X2.st.length X2.c0)) 1 (.slice X2.A1 X2.ri.length X2.c1)) (blk_set (blk_set (gk) 0 (.slice X2.A0 X2.st.length X2.c0)) 1 (.slice X2.A1 X2.ri.length X2.c1)) 2 (.slice X2.A2 X2.ca.length X2.c2)) (blk_set (blk_set (blk_set (gk) 0 (.slice X2.A0 X2.st.length X2.c0)) 1 (.slice X2.A1 X2.ri.length X2.c1)) 2 (.slice X2.A2 X2.ca.length X2.c2)) 3 (.slice X2.A3 X2.su.length X2.c3), Q_OR12, fun _ => New.set27 (New.set27 (New.set27 (New.set27 (NW3.out) (gk) 0 (.slice X2.A0 X2.st.length X2.c0)) (blk_set (gk) 0 (.slice X2.A0 X2.st.length X2.c0)) 1 (.slice X2.A1 X2.ri.length X2.c1)) (blk_set (blk_set (gk) 0 (.slice X2.A0 X2.st.length X2.c0)) 1 (.slice X2.A1 X2.ri.length X2.c1)) 2 (.slice X2.A2 X2.ca.length X2.c2)) (blk_set (blk_set (blk_set (gk) 0 (.slice X2.A0 X2.st.length X2.c0)) 1 (.slice X2.A1 X2.ri.length X2.c1)) 2 (.slice X2.A2 X2.ca.length X2.c2)) 3 (.slice X2.A3 X2.su.length X2.c3), Q_OR13, Q_OR23, Q_X1_, Q_X3_, Q_X5_, Q_X6_, Q_X7_, Q_X8_⟩
    refine steps_cons ?_ ?_
    · rintro b a w' ⟨X1, lo1, hi1, X2, lo2, hi2, X3, lo3, hi3, g1, g2, g3, m1_, m3_, m5_, m6_, m7_, m8_, ha, Q_HBW, Q_Fg1, Q_Fg2, Q_Fg3, Q_Ng1g2, Q_Ng1g3, Q_Ng2g3, Q_Sg1, Q_Sg2, Q_Sg3, Q_NW1, Q_NW2, Q_OR12, Q_NW3, Q_OR13, Q_OR23, Q_X1_, Q_X3_, Q_X5_, Q_X6_, Q_X7_, Q_X8_⟩ hb_ hon hoff
      refine ⟨_, rfl, fun K hK => ?_⟩
      have e18 : a.tmps[18]? = some (m8_) := by rw [ha]; exact putSel_on (e := (8, 18, m8_)) 8 rfl rfl (hon 8 (by kernel_rfl)) rfl
      rw [Q_X8_ (hon 8 (by kernel_rfl))] at e18
      have e52 : a.tmps[52]? = some (m5_) := by rw [ha]; exact putSel_on (e := (5, 52, m5_)) 5 rfl rfl (hon 5 (by kernel_rfl)) rfl
      rw [Q_X5_ (hon 5 (by kernel_rfl))] at e52
      replace ha := Aside0.mk ha
      have HBW := Aside0.mk Q_HBW
      have Fg1 := Aside0.mk (Q_Fg1 (hon 6 (by kernel_rfl)))
      have Fg2 := Aside0.mk (Q_Fg2 (hon 7 (by kernel_rfl)))
      have Fg3 := Aside0.mk (Q_Fg3 (hon 8 (by kernel_rfl)))
      have Ng1g2 := Aside0.mk (Q_Ng1g2 (hon 6 (by kernel_rfl)) (hon 7 (by kernel_rfl)))
      have Ng1g3 := Aside0.mk (Q_Ng1g3 (hon 6 (by kernel_rfl)) (hon 8 (by kernel_rfl)))
      have Ng2g3 := Aside0.mk (Q_Ng2g3 (hon 7 (by kernel_rfl)) (hon 8 (by kernel_rfl)))
      have Sg1 := Aside0.mk (Q_Sg1 (hon 9 (by kernel_rfl)))
      have Sg2 := Aside0.mk (Q_Sg2 (hon 10 (by kernel_rfl)))
      have NW1 := Aside0.mk (Q_NW1 (hon 1 (by kernel_rfl)))
      have NW2 := Aside0.mk (Q_NW2 (hon 3 (by kernel_rfl)))
      have OR12 := Aside0.mk (Q_OR12 (hon 1 (by kernel_rfl)) (hon 3 (by kernel_rfl)))
      have NW3 := Aside0.mk (Q_NW3 (hon 5 (by kernel_rfl)))
      have OR13 := Aside0.mk (Q_OR13 (hon 1 (by kernel_rfl)) (hon 5 (by kernel_rfl)))
      have OR23 := Aside0.mk (Q_OR23 (hon 3 (by kernel_rfl)) (hon 5 (by kernel_rfl)))
      obtain ⟨hgs_, u0, u1, u2, u3, gk⟩ := Fg3.out
      have c0 := (blk_cell (gk) 0).trans rfl
      have f0 := blk_frozen (gk) 0
      have c1 := (blk_cell (blk_set (gk) 0 (.slice X3.A0 X3.st.length X3.c0)) 1).trans rfl
      have f1 := blk_frozen (blk_set (gk) 0 (.slice X3.A0 X3.st.length X3.c0)) 1
      have c2 := (blk_cell (blk_set (blk_set (gk) 0 (.slice X3.A0 X3.st.length X3.c0)) 1 (.slice X3.A1 X3.ri.length X3.c1)) 2).trans rfl
      have f2 := blk_frozen (blk_set (blk_set (gk) 0 (.slice X3.A0 X3.st.length X3.c0)) 1 (.slice X3.A1 X3.ri.length X3.c1)) 2
      have c3 := (blk_cell (blk_set (blk_set (blk_set (gk) 0 (.slice X3.A0 X3.st.length X3.c0)) 1 (.slice X3.A1 X3.ri.length X3.c1)) 2 (.slice X3.A2 X3.ca.length X3.c2)) 3).trans rfl
      have f3 := blk_frozen (blk_set (blk_set (blk_set (gk) 0 (.slice X3.A0 X3.st.length X3.c0)) 1 (.slice X3.A1 X3.ri.length X3.c1)) 2 (.slice X3.A2 X3.ca.length X3.c2)) 3
      have nend := blk_set (blk_set (blk_set (blk_set (gk) 0 (.slice X3.A0 X3.st.length X3.c0)) 1 (.slice X3.A1 X3.ri.length X3.c1)) 2 (.slice X3.A2 X3.ca.length X3.c2)) 3 (.slice X3.A3 X3.su.length X3.c3)
      refine skip_ (w1 := ((((w'.setCell ⟨g3, 0, none⟩ (.slice X3.A0 X3.st.length X3.c0)).setCell ⟨g3, 1, none⟩ (.slice X3.A1 X3.ri.length X3.c1)).setCell ⟨g3, 2, none⟩ (.slice X3.A2 X3.ca.length X3.c2)).setCell ⟨g3, 3, none⟩ (.slice X3.A3 X3.su.length X3.c3))) (by rfl) rfl (by go_simp) ?_
      refine hK.out _ _ ⟨X1, lo1, hi1, X2, lo2, hi2, X3, lo3, hi3, g1, g2, g3, m1_, m3_, m5_, m6_, m7_, m8_, (by rw [ha.out]; exact putSel_none (v := undef) rfl), below_set (below_set (below_set (below_set (HBW.out) hgs_) hgs_) hgs_) hgs_, fun _ => ⟨Fg1.out.1, (fun ⟨u0, u1, u2, u3, h⟩ => ⟨u0, u1, u2, u3, blk_far (blk_far (blk_far (blk_far (h) Ng1g3.out _) Ng1g3.out _) Ng1g3.out _) Ng1g3.out _⟩) Fg1.out.2⟩, fun _ => ⟨Fg2.out.1, (fun ⟨u0, u1, u2, u3, h⟩ => ⟨u0, u1, u2, u3, blk_far (blk_far (blk_far (blk_far (h) Ng2g3.out _) Ng2g3.out _) Ng2g3.out _) Ng2g3.out _⟩) Fg2.out.2⟩, fun _ => ⟨hgs_, _, _, _, _, nend⟩, fun _ _ => Ng1g2.out, fun _ _ => Ng1g3.out, fun _ _ => Ng2g3.out, fun _ => blk_far (blk_far (blk_far (blk_far (Sg1.out) Ng1g3.out _) Ng1g3.out _) Ng1g3.out _) Ng1g3.out _, fun _ => blk_far (blk_far (blk_far (blk_far (Sg2.out) Ng2g3.out _) Ng2g3.out _) Ng2g3.out _) Ng2g3.out _, fun _ => nend, fun _ => New.set27 (New.set27 (New.set27 (New.set27 (NW1.out) (gk) 0 (.slice X3.A0 X3.st.length X3.c0)) (blk_set (gk) 0 (.slice X3.A0 X3.st.length X3.c0)) 1 (.slice X3.A1 X3.ri.length X3.c1)) (blk_set (blk_set (gk) 0 (.slice X3.A0 X3.st.length X3.c0)) 1 (.slice X3.A1 X3.ri.length X3.c1)) 2 (.slice X3.A2 X3.ca.length X3.c2)) (blk_set (blk_set (blk_set (gk) 0 (.slice X3.A0 X3.st.length X3.c0)) 1 (.slice X3.A1 X3.ri.length X3.c1)) 2 (.slice X3.A2 X3.ca.length X3.c2)) 3 (.slice X3.A3 X3.su.length X3.c3), fun _ => New.set27 (New.set27 (New.set27 (New.set27 (NW2.out) (gk) 0 (.slice X3.A0 X3.st.length X3.c0)) (blk_set (gk) 0 (.slice X3.A0 X3.st.length X3.c0)) 1 (.slice X3.A1 X3.ri.length X3.c1)) (blk_set (blk_set (gk) 0 (.slice X3.A0 X3.st.length X3.c0)) 1 (.slice X3.A1 X3.ri.length X3.c1)) 2 (.slice X3.A2 X3.ca.length X3.c2)) (blk_set (blk_set (blk_set (gk) 0 (.slice X3.A0 X3.st.length X3.c0)) 1 (.slice X3.A1 X3.ri.length X3.c1)) 2 (.slice X3.A2 X3.ca.length X3.c2)) 3 (.slice X3.A3 X3.su.length X3.c3), Q_OR12, fun _ => New.set27 (New.set27 (New.set27 (New.set27 (NW3.out) (gk) 0 (.slice X3.A0 X3.st.length X3.c0)) (blk_set (gk) 0 (.slice X3.A0 X3.st.length X3.c0)) 1 (.slice X3.A1 X3.ri.length X3.c1)) (blk_set (blk_set (gk) 0 (.slice X3.A0 X3.st.length X3.c0)) 1 (.slice X3.A1 X3.ri.length X3.c1)) 2 (.slice X3.A2 X3.ca.length X3.c2)) (blk_set (blk_set (blk_set (gk) 0 (.slice X3.A0 X3.st.length X3.c0)) 1 (.slice X3.A1 X3.ri.length X3.c1)) 2 (.slice X3.A2 X3.ca.length X3.c2)) 3 (.slice X3.A3 X3.su.length X3.c3), Q_OR13, Q_OR23, Q_X1_, Q_X3_, Q_X5_, Q_X6_, Q_X7_, Q_X8_⟩
    exact steps_nil
  · rintro b a w' hall ⟨X1, lo1, hi1, X2, lo2, hi2, X3, lo3, hi3, g1, g2, g3, m1_, m3_, m5_, m6_, m7_, m8_, ha, Q_HBW, Q_Fg1, Q_Fg2, Q_Fg3, Q_Ng1g2, Q_Ng1g3, Q_Ng2g3, Q_Sg1, Q_Sg2, Q_Sg3, Q_NW1, Q_NW2, Q_OR12, Q_NW3, Q_OR13, Q_OR23, Q_X1_, Q_X3_, Q_X5_, Q_X6_, Q_X7_, Q_X8_⟩
    clear HBW
    have hb0_ := hall 0 (by kernel_rfl)
    have hb1_ := hall 1 (by kernel_rfl)
    have hb2_ := hall 2 (by kernel_rfl)
    have hb3_ := hall 3 (by kernel_rfl)
    have hb4_ := hall 4 (by kernel_rfl)
    have hb5_ := hall 5 (by kernel_rfl)
    have hb6_ := hall 6 (by kernel_rfl)
    have hb7_ := hall 7 (by kernel_rfl)
    have hb8_ := hall 8 (by kernel_rfl)
    have hb9_ := hall 9 (by kernel_rfl)
    have hb10_ := hall 10 (by kernel_rfl)
    have hb11_ := hall 11 (by kernel_rfl)
    subst ha
    obtain rfl := Q_X1_ hb1_
    obtain rfl := Q_X3_ hb3_
    obtain rfl := Q_X5_ hb5_
    obtain rfl := Q_X6_ hb6_
    obtain rfl := Q_X7_ hb7_
    obtain rfl := Q_X8_ hb8_
    simp only [putSel, hb0_, hb1_, hb2_, hb3_, hb4_, hb5_, hb6_, hb7_, hb8_, hb9_, hb10_, hb11_, if_true, Act.put, List.setIfInBounds_toArray, List.set_cons_zero, List.set_cons_succ]
    have HBW := Aside0.mk Q_HBW
    clear Q_HBW
    have Fg1 := Aside0.mk (Q_Fg1 hb6_)
    clear Q_Fg1
    have Fg2 := Aside0.mk (Q_Fg2 hb7_)
    clear Q_Fg2
    have Fg3 := Aside0.mk (Q_Fg3 hb8_)
    clear Q_Fg3
    have Ng1g2 := Aside0.mk (Q_Ng1g2 hb6_ hb7_)
    clear Q_Ng1g2
    have Ng1g3 := Aside0.mk (Q_Ng1g3 hb6_ hb8_)
    clear Q_Ng1g3
    have Ng2g3 := Aside0.mk (Q_Ng2g3 hb7_ hb8_)
    clear Q_Ng2g3
    have Sg1 := Aside0.mk (Q_Sg1 hb9_)
    clear Q_Sg1
    have Sg2 := Aside0.mk (Q_Sg2 hb10_)
    clear Q_Sg2
    have Sg3 := Aside0.mk (Q_Sg3 hb11_)
    clear Q_Sg3
    have NW1 := Aside0.mk (Q_NW1 hb1_)
    clear Q_NW1
    have NW2 := Aside0.mk (Q_NW2 hb3_)
    clear Q_NW2
    have OR12 := Aside0.mk (Q_OR12 hb1_ hb3_)
    clear Q_OR12
    have NW3 := Aside0.mk (Q_NW3 hb5_)
    clear Q_NW3
    have OR13 := Aside0.mk (Q_OR13 hb1_ hb5_)
    clear Q_OR13
    have OR23 := Aside0.mk (Q_OR23 hb3_ hb5_)
    clear Q_OR23
    clear hall hb0_ hb1_ hb2_ hb3_ hb4_ hb5_ hb6_ hb7_ hb8_ hb9_ hb10_ hb11_
    have hW0 := blk_lt HBV.out
    replace HB := Aside0.mk (bt HB.out HBW.out)
    replace HBX := Aside0.mk (blk_below HBX.out HBW.out)
    replace HBV := Aside0.mk (blk_below HBV.out HBW.out)
    have CQ1 := Aside0.mk (Cq.mk Sg1.out NW1.out.own)
    have hg1 : w.heap.size + 1 < g1 := Nat.lt_of_lt_of_le hW0 Fg1.out.1
    have hl1 : w.heap.size + 1 < lo1 := Nat.lt_of_lt_of_le hW0 NW1.out.lo_
    have hh1 := NW1.out.hi_
    have HE1 := Aside0.mk (And.intro NW1.out.st (And.intro NW1.out.ri (And.intro NW1.out.ca NW1.out.su)))
    have CQ2 := Aside0.mk (Cq.mk Sg2.out NW2.out.own)
    have hg2 : w.heap.size + 1 < g2 := Nat.lt_of_lt_of_le hW0 Fg2.out.1
    have hl2 : w.heap.size + 1 < lo2 := Nat.lt_of_lt_of_le hW0 NW2.out.lo_
    have hh2 := NW2.out.hi_
    have HE2 := Aside0.mk (And.intro NW2.out.st (And.intro NW2.out.ri (And.intro NW2.out.ca NW2.out.su)))
    have CQ3 := Aside0.mk (Cq.mk Sg3.out NW3.out.own)
    have hg3 : w.heap.size + 1 < g3 := Nat.lt_of_lt_of_le hW0 Fg3.out.1
    have hl3 : w.heap.size + 1 < lo3 := Nat.lt_of_lt_of_le hW0 NW3.out.lo_
    have hh3 := NW3.out.hi_
    have HE3 := Aside0.mk (And.intro NW3.out.st (And.intro NW3.out.ri (And.intro NW3.out.ca NW3.out.su)))
    have o12 := OR12.out
    have o13 := OR13.out
    have o23 := OR23.out
    have n12 := Ng1g2.out
    have n13 := Ng1g3.out
    have n23 := Ng2g3.out
    have HNG := Aside0.mk (And.intro hg1 (And.intro hg2 hg3))
    clear NW1 NW2 NW3 Sg1 Sg2 Sg3 Fg1 Fg2 Fg3 OR12 OR13 OR23 Ng1g2 Ng1g3 Ng2g3 HBW hW0
    have HLO := Aside0.mk (And.intro (And.intro hl1 (And.intro hl2 hl3)) (And.intro (And.intro hh1 (And.intro hh2 hh3)) (And.intro o12 (And.intro o13 o23))))
    have HGG := Aside0.mk (And.intro n12 (And.intro n13 n23))
    clear hl1 hl2 hl3 hh1 hh2 hh3 o12 o13 o23 n12 n13 n23 hg1 hg2 hg3
    have v4_ := (blk_cell HBV.out 4).trans rfl
    have fz_ := blk_frozen HBV.out 4
    go_upto_region 7 with (first | ((with_reducible refine gate_st (p := 53) rfl ?_); refine put_ev (p := 53) (w1 := w'.setCell ⟨w.heap.size + 1, 4, none⟩ (.int .i64 0)) (fun x_ => Below w.heap.size w x_ ∧ x_.heap[w.heap.size]? = some (.cells #[.slice a0.A0 a0.st.length a0.c0, .slice a0.A1 a0.ri.length a0.c1, .slice a0.A2 a0.ca.length a0.c2, .slice a0.A3 a0.su.length a0.c3] 27 (0, 0)) ∧ x_.heap[w.heap.size + 1]? = some (.cells #[.int .i64 a3.f0, .int .i64 a3.f1, .int .i64 a3.f2, .int .i64 a3.f3, .int .i64 0, .int .i64 a3.f5] 55 (0, 0)) ∧ Cq X1 g1 (fun k => lo1 ≤ k ∧ k < hi1) w.heap.size x_ ∧ Cq X2 g2 (fun k => lo2 ≤ k ∧ k < hi2) w.heap.size x_ ∧ Cq X3 g3 (fun k => lo3 ≤ k ∧ k < hi3) w.heap.size x_ ∧ w'.heap.size ≤ x_.heap.size) rfl rfl rfl ?hr ?hF ?_; (case hr => first | (go_simp; done) | (go_simp; rfl)); (case hF => obtain ⟨⟨hl1, hl2, hl3⟩, ⟨hh1, hh2, hh3⟩, o12, o13, o23⟩ := HLO.out; obtain ⟨n12, n13, n23⟩ := HGG.out; obtain ⟨hg1, hg2, hg3⟩ := HNG.out; exact ⟨below_set HB.out (Nat.le_succ _), blk_far (p := ⟨w.heap.size + 1, 4, none⟩) HBX.out (show w.heap.size ≠ w.heap.size + 1 from by omega) _, blk_set HBV.out 4 _, CQ1.out.far (p := ⟨w.heap.size + 1, 4, none⟩) (show g1 ≠ w.heap.size + 1 from by omega) (fun k hk => show k ≠ w.heap.size + 1 from by have := hk.1; omega) _, CQ2.out.far (p := ⟨w.heap.size + 1, 4, none⟩) (show g2 ≠ w.heap.size + 1 from by omega) (fun k hk => show k ≠ w.heap.size + 1 from by have := hk.1; omega) _, CQ3.out.far (p := ⟨w.heap.size + 1, 4, none⟩) (show g3 ≠ w.heap.size + 1 from by omega) (fun k hk => show k ≠ w.heap.size + 1 from by have := hk.1; omega) _, Nat.le_of_eq (setCell_size _ _ _).symm⟩); clear v4_ fz_ HB HBX HBV CQ1 CQ2 CQ3; rintro wa ⟨k0_, k1_, k2_, k3_, k4_, k5_, k6_⟩; have HB := Aside0.mk k0_; have HBX := Aside0.mk k1_; have HBV := Aside0.mk k2_; have CQ1 := Aside0.mk k3_; have CQ2 := Aside0.mk k4_; have CQ3 := Aside0.mk k5_; have HWA := Aside0.mk k6_; clear k6_ k0_ k1_ k2_ k3_ k4_ k5_))
    have HRL : Aside0 (X1.ri.length ≤ 6) := ⟨by rw [HE1.out.2.1]; exact hr6⟩
    have hrl := HRL.out
    have d0 := (blk_cell HBX.out 0).trans rfl
    have d1 := (blk_cell HBX.out 1).trans rfl
    have d2 := (blk_cell HBX.out 2).trans rfl
    have d3 := (blk_cell HBX.out 3).trans rfl
    have v0_ := (blk_cell HBV.out 0).trans rfl
    have v1_ := (blk_cell HBV.out 1).trans rfl
    have v2_ := (blk_cell HBV.out 2).trans rfl
    have v3_ := (blk_cell HBV.out 3).trans rfl
    have v4_ := (blk_cell HBV.out 4).trans rfl
    have v5_ := (blk_cell HBV.out 5).trans rfl
    have y0_ := (blk_cell CQ1.out.box 0).trans rfl
    have y1_ := (blk_cell CQ1.out.box 1).trans rfl
    have y2_ := (blk_cell CQ1.out.box 2).trans rfl
    have y3_ := (blk_cell CQ1.out.box 3).trans rfl
    go_upto_region 8 with (first | ((with_reducible refine gate_builtin (b := .append) (xs := #[.tmp 55, .tmp 57]) rfl ?_); at_builtin; refine Kd.R_append k55 (w0 := w) w.heap.size rfl (.tmp 55) (.tmp 57) 23 55 (.agg #[(.int .i64 0), (.int .i64 0), (.int .i64 0), (.int .i64 0), (.int .i64 0), (.int .i64 0)]) 48 rfl Try.underlying23 info55 rfl (by decide) (by omega) _ X1.ri (⟨a3.f0, a3.f1, a3.f2, a3.f3, 0, a3.f5⟩ : S55) [.int .i64 a3.f0, .int .i64 a3.f1, .int .i64 a3.f2, .int .i64 a3.f3, .int .i64 0, .int .i64 a3.f5] (fun k => (lo1 ≤ k ∧ k < hi1) ∨ wa.heap.size ≤ k) (fun _ => False) rfl rfl ?aP (fun _ hk => hk.elim) ?aF ?aO ?aB ?aS ?aL ?_; (case aP => exact k55_mkM _ _ _ _); (case aB => exact HB.out); (case aF => exact (fun k hk => Or.inr hk)); (case aO => exact Kd.R_mono CQ1.out.own.r1 (fun _ h => Or.inl h)); (case aS => exact HB.out.size); (case aL => omega); intro v1 wb hR1 hB1 hG1 hA1; obtain ⟨bA_, yA_, rfl⟩ := Kd.R_slice hR1; have hro := CQ1.out.own.r1.1; obtain ⟨⟨hl1, hl2, hl3⟩, ⟨hh1, hh2, hh3⟩, o12, o13, o23⟩ := HLO.out; obtain ⟨n12, n13, n23⟩ := HGG.out; obtain ⟨hg1, hg2, hg3⟩ := HNG.out; have HOW1 := Aside0.mk (Ow.ridge (ok' := (fun k => (lo1 ≤ k ∧ k < hi1) ∨ wa.heap.size ≤ k)) CQ1.out.own hR1 hG1 (fun _ h => Or.inl h)); have HBX1 := Aside0.mk (blk_grown CQ1.out.box hG1 (Kd.R_ne CQ1.out.own.r1 CQ1.out.box (by decide))); replace HB := Aside0.mk hB1; replace HBX := Aside0.mk (blk_grown HBX.out hG1 (Kd.R_ne CQ1.out.own.r1 HBX.out (by decide))); replace HBV := Aside0.mk (blk_grown HBV.out hG1 (fun e => by have := hro _ e.symm; omega)); replace CQ2 := Aside0.mk (CQ2.out.grown hG1 (Kd.R_ne CQ1.out.own.r1 CQ2.out.box (by decide)) (fun k hk _ e => by have h1 := hro k e.symm; have h2 := hk.1; omega)); replace CQ3 := Aside0.mk (CQ3.out.grown hG1 (Kd.R_ne CQ1.out.own.r1 CQ3.out.box (by decide)) (fun k hk _ e => by have h1 := hro k e.symm; have h2 := hk.1; omega)); have HWB := Aside0.mk hG1.size; clear CQ1 hro hR1 hB1 hG1 hA1 hl1 hl2 hl3 hh1 hh2 hh3 o12 o13 o23 n12 n13 n23 hg1 hg2 hg3 d0 d1 d2 d3 v0_ v1_ v2_ v3_ v4_ v5_ y0_ y1_ y2_ y3_; have c1_ := (blk_cell HBX1.out 1).trans rfl; have fz_ := blk_frozen HBX1.out 1) | ((with_reducible refine gate_st (p := 59) rfl ?_); refine put_ev (p := 59) (w1 := wb.setCell ⟨g1, 1, none⟩ (.slice bA_ (X1.ri ++ [(⟨a3.f0, a3.f1, a3.f2, a3.f3, 0, a3.f5⟩ : S55)]).length yA_)) (fun x_ => Below w.heap.size w x_ ∧ x_.heap[w.heap.size]? = some (.cells #[.slice a0.A0 a0.st.length a0.c0, .slice a0.A1 a0.ri.length a0.c1, .slice a0.A2 a0.ca.length a0.c2, .slice a0.A3 a0.su.length a0.c3] 27 (0, 0)) ∧ x_.heap[w.heap.size + 1]? = some (.cells #[.int .i64 a3.f0, .int .i64 a3.f1, .int .i64 a3.f2, .int .i64 a3.f3, .int .i64 0, .int .i64 a3.f5] 55 (0, 0)) ∧ Cq { X1 with ri := X1.ri ++ [(⟨a3.f0, a3.f1, a3.f2, a3.f3, 0, a3.f5⟩ : S55)], A1 := bA_, c1 := yA_ } g1 (fun k => (lo1 ≤ k ∧ k < hi1) ∨ wa.heap.size ≤ k) w.heap.size x_ ∧ Cq X2 g2 (fun k => lo2 ≤ k ∧ k < hi2) w.heap.size x_ ∧ Cq X3 g3 (fun k => lo3 ≤ k ∧ k < hi3) w.heap.size x_ ∧ wa.heap.size ≤ x_.heap.size) rfl rfl rfl ?hr ?hF ?_; (case hr => first | (go_simp; done) | (go_simp; rfl)); (case hF => obtain ⟨⟨hl1, hl2, hl3⟩, ⟨hh1, hh2, hh3⟩, o12, o13, o23⟩ := HLO.out; obtain ⟨n12, n13, n23⟩ := HGG.out; obtain ⟨hg1, hg2, hg3⟩ := HNG.out; exact ⟨below_set HB.out (Nat.le_of_lt (Nat.lt_of_succ_lt hg1)), blk_far (p := ⟨g1, 1, none⟩) HBX.out (show w.heap.size ≠ g1 from by omega) _, blk_far (p := ⟨g1, 1, none⟩) HBV.out (show w.heap.size + 1 ≠ g1 from by omega) _, ⟨blk_set HBX1.out 1 _, HOW1.out.set27 HBX1.out 1 _⟩, ⟨blk_far (p := ⟨g1, 1, none⟩) CQ2.out.box (show g2 ≠ g1 from n12.symm) _, CQ2.out.own.set27 HBX1.out 1 _⟩, ⟨blk_far (p := ⟨g1, 1, none⟩) CQ3.out.box (show g3 ≠ g1 from n13.symm) _, CQ3.out.own.set27 HBX1.out 1 _⟩, Nat.le_trans HWB.out (Nat.le_of_eq (setCell_size _ _ _).symm)⟩); clear c1_ fz_ HB HBX HBV CQ2 CQ3 HOW1 HBX1; rintro wc ⟨k0_, k1_, k2_, k3_, k4_, k5_, k6_⟩; have HB := Aside0.mk k0_; have HBX := Aside0.mk k1_; have HBV := Aside0.mk k2_; have CQ1 := Aside0.mk k3_; have CQ2 := Aside0.mk k4_; have CQ3 := Aside0.mk k5_; have HWC := Aside0.mk k6_; clear k6_ k0_ k1_ k2_ k3_ k4_ k5_))
    obtain ⟨Y1, hY1⟩ : ∃ Y1 : Rv, Y1 = { X1 with ri := X1.ri ++ [(⟨a3.f0, a3.f1, a3.f2, a3.f3, 0, a3.f5⟩ : S55)], A1 := bA_, c1 := yA_ } := ⟨_, rfl⟩
    rw [← hY1] at CQ1
    have HY1 := Aside0.mk (show Y1.st = a0.st ∧ Y1.ri = a0.ri ++ [(⟨a3.f0, a3.f1, a3.f2, a3.f3, 0, a3.f5⟩ : S55)] ∧ Y1.ca = a0.ca ∧ Y1.su = a0.su from by rw [hY1]; exact ⟨HE1.out.1, by rw [← HE1.out.2.1], HE1.out.2.2.1, HE1.out.2.2.2⟩)
    clear hY1
    have d0 := (blk_cell HBX.out 0).trans rfl
    have d1 := (blk_cell HBX.out 1).trans rfl
    have d2 := (blk_cell HBX.out 2).trans rfl
    have d3 := (blk_cell HBX.out 3).trans rfl
    have HS := Aside0.mk (mod_bd (q := a4) hu1)
    go_upto_region 9 with (fail)
    generalize a4 % (a0.su.length : Int) = cf at *
    clear q4
    clear d0 d1 d2 d3
    have s0 := HS.out.1
    have s1 := HS.out.2
    obtain ⟨dm, hdm⟩ : ∃ dm : Int, dm = a5 % ((a0.su.length : Int) - cf) := ⟨_, rfl⟩
    have hd0 : 0 ≤ dm ∧ dm < (a0.su.length : Int) - cf := by rw [hdm]; exact ⟨Int.emod_nonneg _ (by omega), Int.emod_lt_of_pos _ (by omega)⟩
    have HWR := Aside0.mk (And.intro (wr64 (n := (a0.su.length : Int) - cf) (by omega) (by omega)) (wr64 (n := cf + dm) (by omega) (by omega)))
    have HDM := Aside0.mk hdm
    clear hdm
    have hk0 := HK.out.1
    have hk1 : ck < X2.ca.length := by rw [HE2.out.2.2.1]; exact HK.out.2
    obtain ⟨q, v, okw, hA2, hqb, hqo, hql, hw1, hw2, hR, hLt⟩ := CQ2.out.own.lend hk0 hk1
    obtain ⟨vA, vc, rfl⟩ := Kd.R_slice hR
    have hcl := (hLt.typed hk0 hk1).1
    have HN := Aside0.mk (show w.heap.size ≠ q ∧ w.heap.size + 1 ≠ q ∧ g2 ≠ q ∧ g1 ≠ q ∧ g3 ≠ q from by obtain ⟨cells, hc⟩ := hcl; exact ⟨blk_ne HBX.out hc (by decide), blk_ne HBV.out hc (by decide), blk_ne CQ2.out.box hc (by decide), blk_ne CQ1.out.box hc (by decide), blk_ne CQ3.out.box hc (by decide)⟩)
    have HVB := Aside0.mk (show ∀ k, (Value.slice vA (rd_L3 X2.ca ck).length vc).ownBlock = some k → lo2 ≤ k ∧ k < hi2 from fun k hk => by obtain ⟨cells, hc⟩ := Kd.R_typed hR k hk; have h1 := blk_lt hc; rcases hw1 k (hR.1 k hk) with h2 | h2; exact h2; omega)
    have hxl : (rd_L3 X2.ca ck).length ≤ 64 := by rw [HE2.out.2.2.1]; exact HCC.out _ (rd_L3_mem hk0 HK.out.2)
    generalize hxs : rd_L3 X2.ca ck = xs at *
    have HXS := Aside0.mk hxs
    clear hxs hcl
    have HA2 := Aside0.mk hA2
    have HXX := Aside0.mk (show wc.heap[g2]? = some (.cells #[.slice X2.A0 X2.st.length X2.c0, .slice X2.A1 X2.ri.length X2.c1, .slice (some ⟨q, 0, none⟩) X2.ca.length X2.c2, .slice X2.A3 X2.su.length X2.c3] 27 (0, 0)) from by rw [← hA2]; exact CQ2.out.box)
    have HQB := Aside0.mk (And.intro hqb hqo)
    have HW2 := Aside0.mk hw2
    have HRR := Aside0.mk hR
    have HLT := Aside0.mk hLt
    clear hA2 hqb hqo hql hw1 hw2 hR hLt CQ2
    refine start_ (n := 25) (S := fun w' => True) (ds := []) #[false, false, false, false, false, false, false, false, false, false, false, false, false, false, false, false, false, false, false, false, false, false, false, false, false] (by kernel_rfl) rfl rfl trivial (fun hHeld => ?_)
    refine with_tabW more.tab9 more.bits9 (fun HT_ HW_ => ?_)
    have HBW := Aside0.mk (below_drew HB.out)
    have SZ := Aside0.mk (show wc.heap.size ≤ wc.drew.heap.size from Nat.le_refl _)
    have BX := Aside0.mk (show wc.drew.heap[w.heap.size]? = some (.cells #[.slice a0.A0 a0.st.length a0.c0, .slice a0.A1 a0.ri.length a0.c1, .slice a0.A2 a0.ca.length a0.c2, .slice a0.A3 a0.su.length a0.c3] 27 (0, 0)) ∧ wc.drew.heap[w.heap.size + 1]? = some (.cells #[.int .i64 a3.f0, .int .i64 a3.f1, .int .i64 a3.f2, .int .i64 a3.f3, .int .i64 0, .int .i64 a3.f5] 55 (0, 0)) ∧ wc.drew.heap[g2]? = some (.cells #[.slice X2.A0 X2.st.length X2.c0, .slice X2.A1 X2.ri.length X2.c1, .slice (some ⟨q, 0, none⟩) X2.ca.length X2.c2, .slice X2.A3 X2.su.length X2.c3] 27 (0, 0)) from ⟨HBX.out, HBV.out, HXX.out⟩)
    have OT := Aside0.mk (And.intro (CQ1.out.below (below_drew (Below.refl _ _))) (CQ3.out.below (below_drew (Below.refl _ _))))
    have LE := Aside0.mk (HLT.out.below (below_drew (Below.refl _ _)))
    have R44 := Aside0.mk (Kd.R_drew HRR.out)
    generalize wc.drew = wd_ at *
    refine inv_at [0, 1, 2, 3, 4, 5, 6, 7, 8, 9, 10, 11, 12, 13, 14, 15, 16, 17, 18, 19, 20, 21, 22, 23, 24] (fun a0_ b a w' => ∃ (v52_ : Value) (q51_ : Nat) (wp_ : World) (m21_ : Value), a = putSel a0_ b [(0, 66, .pointer (some ⟨g2, 2, none⟩)), (1, 67, .slice (some ⟨q, 0, none⟩) X2.ca.length X2.c2), (2, 68, .int .i64 ck), (3, 69, .pointer (some ⟨g2, 2, none⟩)), (4, 70, .slice (some ⟨q, 0, none⟩) X2.ca.length X2.c2), (5, 71, .int .i64 ck), (6, 72, .pointer (some ⟨q, ck.toNat, none⟩)), (7, 73, .slice vA xs.length vc), (8, 74, .agg #[.int .i64 a3.f0, .int .i64 a3.f1, .int .i64 a3.f2, .int .i64 a3.f3, .int .i64 0, .int .i64 a3.f5]), (9, 75, .int .i64 cf), (10, 76, .int .i64 cf), (11, 77, .int .u8 a5), (12, 78, .int .i64 a5), (13, 79, .pointer (some ⟨w.heap.size, 3, none⟩)), (14, 80, .slice a0.A3 a0.su.length a0.c3), (15, 81, .int .i64 (a0.su.length : Int)), (16, 82, .int .i64 cf), (17, 83, .int .i64 ((a0.su.length : Int) - cf)), (18, 84, .int .i64 dm), (19, 85, .int .i64 (cf + dm)), (20, 86, .agg #[.int .i64 a3.f0, .int .i64 a3.f1, .int .i64 a3.f2, .int .i64 a3.f3, .int .i64 0, .int .i64 a3.f5, .int .i64 cf, .int .i64 (cf + dm)]), (21, 87, m21_), (22, 88, v52_), (23, 89, .pointer (some ⟨q, ck.toNat, none⟩))] ∧ (Below w.heap.size w w') ∧ (wc.heap.size ≤ w'.heap.size) ∧ (w'.heap[w.heap.size]? = some (.cells #[.slice a0.A0 a0.st.length a0.c0, .slice a0.A1 a0.ri.length a0.c1, .slice a0.A2 a0.ca.length a0.c2, .slice a0.A3 a0.su.length a0.c3] 27 (0, 0)) ∧ w'.heap[w.heap.size + 1]? = some (.cells #[.int .i64 a3.f0, .int .i64 a3.f1, .int .i64 a3.f2, .int .i64 a3.f3, .int .i64 0, .int .i64 a3.f5] 55 (0, 0)) ∧ w'.heap[g2]? = some (.cells #[.slice X2.A0 X2.st.length X2.c0, .slice X2.A1 X2.ri.length X2.c1, .slice (some ⟨q, 0, none⟩) X2.ca.length X2.c2, .slice X2.A3 X2.su.length X2.c3] 27 (0, 0))) ∧ (Cq Y1 g1 (fun k => (lo1 ≤ k ∧ k < hi1) ∨ wa.heap.size ≤ k) w.heap.size w' ∧ Cq X3 g3 (fun k => lo3 ≤ k ∧ k < hi3) w.heap.size w') ∧ (b 24 = false → Lent X2 ck q (fun k => (lo2 ≤ k ∧ k < hi2) ∨ wc.heap.size ≤ k) okw w.heap.size (.slice vA xs.length vc) w') ∧ (b 21 = false → Kd.R k61 61 w' w.heap.size okw (.slice vA xs.length vc) (xs)) ∧ (b 21 = true → b 22 = false → w' = wp_.alloc (.cells #[.int .i64 a3.f0, .int .i64 a3.f1, .int .i64 a3.f2, .int .i64 a3.f3, .int .i64 0, .int .i64 a3.f5, .int .i64 cf, .int .i64 (cf + dm)] 61) ∧ q51_ = wp_.heap.size ∧ Below w.heap.size w wp_ ∧ wc.heap.size ≤ wp_.heap.size ∧ (wp_.heap[w.heap.size]? = some (.cells #[.slice a0.A0 a0.st.length a0.c0, .slice a0.A1 a0.ri.length a0.c1, .slice a0.A2 a0.ca.length a0.c2, .slice a0.A3 a0.su.length a0.c3] 27 (0, 0)) ∧ wp_.heap[w.heap.size + 1]? = some (.cells #[.int .i64 a3.f0, .int .i64 a3.f1, .int .i64 a3.f2, .int .i64 a3.f3, .int .i64 0, .int .i64 a3.f5] 55 (0, 0)) ∧ wp_.heap[g2]? = some (.cells #[.slice X2.A0 X2.st.length X2.c0, .slice X2.A1 X2.ri.length X2.c1, .slice (some ⟨q, 0, none⟩) X2.ca.length X2.c2, .slice X2.A3 X2.su.length X2.c3] 27 (0, 0))) ∧ (Lent X2 ck q (fun k => (lo2 ≤ k ∧ k < hi2) ∨ wc.heap.size ≤ k) okw w.heap.size (.slice vA xs.length vc) wp_) ∧ (Kd.R k61 61 wp_ w.heap.size okw (.slice vA xs.length vc) (xs)) ∧ Cq Y1 g1 (fun k => (lo1 ≤ k ∧ k < hi1) ∨ wa.heap.size ≤ k) w.heap.size wp_ ∧ Cq X3 g3 (fun k => lo3 ≤ k ∧ k < hi3) w.heap.size wp_) ∧ (b 22 = true → b 24 = false → Kd.R k61 61 w' w.heap.size okw (v52_) (xs ++ [(⟨⟨a3.f0, a3.f1, a3.f2, a3.f3, 0, a3.f5⟩, cf, cf + dm⟩ : S61)])) ∧ (b 24 = true → Ow { X2 with ca := X2.ca.set ck.toNat (xs ++ [(⟨⟨a3.f0, a3.f1, a3.f2, a3.f3, 0, a3.f5⟩, cf, cf + dm⟩ : S61)]) } (fun k => (lo2 ≤ k ∧ k < hi2) ∨ wc.heap.size ≤ k) w.heap.size w') ∧ (b 21 = true → (m21_ : Value) = .slice (some ⟨q51_, 0, none⟩) 1 1)) HT_.out HW_.out (by kernel_rfl) (by kernel_rfl) ?_ ?_ ?_
    · exact ⟨.bool false, 0, wc, .bool false, by simp only [putSel, Bool.false_eq_true, if_false], HBW.out, SZ.out, BX.out, OT.out, fun _ => LE.out, fun _ => R44.out, fun h_ => absurd h_ (by decide), fun h_ => absurd h_ (by decide), fun h_ => absurd h_ (by decide), fun h_ => absurd h_ (by decide)⟩
    · skip
      clear BX HBW LE OT R44 SZ
      refine steps_cons ?_ ?_
      · rintro b a w' ⟨v52_, q51_, wp_, m21_, ha, Q_HBW, Q_SZ, Q_BX, Q_OT, Q_LE, Q_R44, Q_PH2, Q_R52, Q_END, Q_X21_⟩ hb_ hon hoff
        refine ⟨_, rfl, fun K hK => ?_⟩
        have e17 : a.tmps[17]? = some (.pointer (some ⟨g2, 0, none⟩)) := by rw [ha]; exact (putSel_off rfl).trans rfl
        replace ha := Aside0.mk ha
        have HBW := Aside0.mk Q_HBW
        have SZ := Aside0.mk Q_SZ
        have BX := Aside0.mk Q_BX
        have OT := Aside0.mk Q_OT
        have LE := Aside0.mk (Q_LE (hoff 24 (by kernel_rfl)))
        refine value_ (w1 := w') (v := .pointer (some ⟨g2, 2, none⟩)) (by rfl) rfl ?_ ?_
        · go_simp
          (try simp only [i64_w])
          try rfl
        refine hK.out _ _ ⟨v52_, q51_, wp_, m21_, (by rw [ha.out]; exact putSel_upk 0 hb_ rfl rfl rfl), Q_HBW, Q_SZ, Q_BX, Q_OT, Q_LE, Q_R44, Q_PH2, Q_R52, fun h0_ => absurd ((hoff 24 (by kernel_rfl)).symm.trans h0_) (by decide), Q_X21_⟩
      refine steps_cons ?_ ?_
      · rintro b a w' ⟨v52_, q51_, wp_, m21_, ha, Q_HBW, Q_SZ, Q_BX, Q_OT, Q_LE, Q_R44, Q_PH2, Q_R52, Q_END, Q_X21_⟩ hb_ hon hoff
        refine ⟨_, rfl, fun K hK => ?_⟩
        have e66 : a.tmps[66]? = some (.pointer (some ⟨g2, 2, none⟩)) := by rw [ha]; exact putSel_on (e := (0, 66, .pointer (some ⟨g2, 2, none⟩))) 0 rfl rfl (hon 0 (by kernel_rfl)) rfl
        replace ha := Aside0.mk ha
        have HBW := Aside0.mk Q_HBW
        have SZ := Aside0.mk Q_SZ
        have BX := Aside0.mk Q_BX
        have OT := Aside0.mk Q_OT
        have LE := Aside0.mk (Q_LE (hoff 24 (by kernel_rfl)))
        have k0_ := (blk_cell BX.out.2.2 2).trans rfl
        refine value_ (w1 := w') (v := .slice (some ⟨q, 0, none⟩) X2.ca.length X2.c2) (by rfl) rfl ?_ ?_
        · go_simp
          (try simp only [i64_w])
          try rfl
        refine hK.out _ _ ⟨v52_, q51_, wp_, m21_, (by rw [ha.out]; exact putSel_upk 1 hb_ rfl rfl rfl), Q_HBW, Q_SZ, Q_BX, Q_OT, Q_LE, Q_R44, Q_PH2, Q_R52, fun h0_ => absurd ((hoff 24 (by kernel_rfl)).symm.trans h0_) (by decide), Q_X21_⟩
      refine steps_cons ?_ ?_
      · rintro b a w' ⟨v52_, q51_, wp_, m21_, ha, Q_HBW, Q_SZ, Q_BX, Q_OT, Q_LE, Q_R44, Q_PH2, Q_R52, Q_END, Q_X21_⟩ hb_ hon hoff
        refine ⟨_, rfl, fun K hK => ?_⟩
        have e15 : a.tmps[15]? = some (.int .i64 ck) := by rw [ha]; exact (putSel_off rfl).trans rfl
        replace ha := Aside0.mk ha
        have HBW := Aside0.mk Q_HBW
        have SZ := Aside0.mk Q_SZ
        have BX := Aside0.mk Q_BX
        have OT := Aside0.mk Q_OT
        have LE := Aside0.mk (Q_LE (hoff 24 (by kernel_rfl)))
        refine value_ (w1 := w') (v := .int .i64 ck) (by rfl) rfl ?_ ?_
        · go_simp
          (try simp only [i64_w])
          try rfl
        refine hK.out _ _ ⟨v52_, q51_, wp_, m21_, (by rw [ha.out]; exact putSel_upk 2 hb_ rfl rfl rfl), Q_HBW, Q_SZ, Q_BX, Q_OT, Q_LE, Q_R44, Q_PH2, Q_R52, fun h0_ => absurd ((hoff 24 (by kernel_rfl)).symm.trans h0_) (by decide), Q_X21_⟩
      refine steps_cons ?_ ?_
      · rintro b a w' ⟨v52_, q51_, wp_, m21_, ha, Q_HBW, Q_SZ, Q_BX, Q_OT, Q_LE, Q_R44, Q_PH2, Q_R52, Q_END, Q_X21_⟩ hb_ hon hoff
        refine ⟨_, rfl, fun K hK => ?_⟩
        have e17 : a.tmps[17]? = some (.pointer (some ⟨g2, 0, none⟩)) := by rw [ha]; exact (putSel_off rfl).trans rfl
        replace ha := Aside0.mk ha
        have HBW := Aside0.mk Q_HBW
        have SZ := Aside0.mk Q_SZ
        have BX := Aside0.mk Q_BX
        have OT := Aside0.mk Q_OT
        have LE := Aside0.mk (Q_LE (hoff 24 (by kernel_rfl)))
        refine value_ (w1 := w') (v := .pointer (some ⟨g2, 2, none⟩)) (by rfl) rfl ?_ ?_
        · go_simp
          (try simp only [i64_w])
          try rfl
        refine hK.out _ _ ⟨v52_, q51_, wp_, m21_, (by rw [ha.out]; exact putSel_upk 3 hb_ rfl rfl rfl), Q_HBW, Q_SZ, Q_BX, Q_OT, Q_LE, Q_R44, Q_PH2, fun h0_ _ => absurd ((hoff 22 (by kernel_rfl)).symm.trans h0_) (by decide), fun h0_ => absurd ((hoff 24 (by kernel_rfl)).symm.trans h0_) (by decide), Q_X21_⟩
      refine steps_cons ?_ ?_
      · rintro b a w' ⟨v52_, q51_, wp_, m21_, ha, Q_HBW, Q_SZ, Q_BX, Q_OT, Q_LE, Q_R44, Q_PH2, Q_R52, Q_END, Q_X21_⟩ hb_ hon hoff
        refine ⟨_, rfl, fun K hK => ?_⟩
        have e69 : a.tmps[69]? = some (.pointer (some ⟨g2, 2, none⟩)) := by rw [ha]; exact putSel_on (e := (3, 69, .pointer (some ⟨g2, 2, none⟩))) 3 rfl rfl (hon 3 (by kernel_rfl)) rfl
        replace ha := Aside0.mk ha
        have HBW := Aside0.mk Q_HBW
        have SZ := Aside0.mk Q_SZ
        have BX := Aside0.mk Q_BX
        have OT := Aside0.mk Q_OT
        have LE := Aside0.mk (Q_LE (hoff 24 (by kernel_rfl)))
        have k0_ := (blk_cell BX.out.2.2 2).trans rfl
        refine value_ (w1 := w') (v := .slice (some ⟨q, 0, none⟩) X2.ca.length X2.c2) (by rfl) rfl ?_ ?_
        · go_simp
          (try simp only [i64_w])
          try rfl
        refine hK.out _ _ ⟨v52_, q51_, wp_, m21_, (by rw [ha.out]; exact putSel_upk 4 hb_ rfl rfl rfl), Q_HBW, Q_SZ, Q_BX, Q_OT, Q_LE, Q_R44, Q_PH2, fun h0_ _ => absurd ((hoff 22 (by kernel_rfl)).symm.trans h0_) (by decide), fun h0_ => absurd ((hoff 24 (by kernel_rfl)).symm.trans h0_) (by decide), Q_X21_⟩
      refine steps_cons ?_ ?_
      · rintro b a w' ⟨v52_, q51_, wp_, m21_, ha, Q_HBW, Q_SZ, Q_BX, Q_OT, Q_LE, Q_R44, Q_PH2, Q_R52, Q_END, Q_X21_⟩ hb_ hon hoff
        refine ⟨_, rfl, fun K hK => ?_⟩
        have e15 : a.tmps[15]? = some (.int .i64 ck) := by rw [ha]; exact (putSel_off rfl).trans rfl
        replace ha := Aside0.mk ha
        have HBW := Aside0.mk Q_HBW
        have SZ := Aside0.mk Q_SZ
        have BX := Aside0.mk Q_BX
        have OT := Aside0.mk Q_OT
        have LE := Aside0.mk (Q_LE (hoff 24 (by kernel_rfl)))
        refine value_ (w1 := w') (v := .int .i64 ck) (by rfl) rfl ?_ ?_
        · go_simp
          (try simp only [i64_w])
          try rfl
        refine hK.out _ _ ⟨v52_, q51_, wp_, m21_, (by rw [ha.out]; exact putSel_upk 5 hb_ rfl rfl rfl), Q_HBW, Q_SZ, Q_BX, Q_OT, Q_LE, Q_R44, Q_PH2, fun h0_ _ => absurd ((hoff 22 (by kernel_rfl)).symm.trans h0_) (by decide), fun h0_ => absurd ((hoff 24 (by kernel_rfl)).symm.trans h0_) (by decide), Q_X21_⟩
      refine steps_cons ?_ ?_
      · rintro b a w' ⟨v52_, q51_, wp_, m21_, ha, Q_HBW, Q_SZ, Q_BX, Q_OT, Q_LE, Q_R44, Q_PH2, Q_R52, Q_END, Q_X21_⟩ hb_ hon hoff
        refine ⟨_, rfl, fun K hK => ?_⟩
        have e70 : a.tmps[70]? = some (.slice (some ⟨q, 0, none⟩) X2.ca.length X2.c2) := by rw [ha]; exact putSel_on (e := (4, 70, .slice (some ⟨q, 0, none⟩) X2.ca.length X2.c2)) 4 rfl rfl (hon 4 (by kernel_rfl)) rfl
        have e71 : a.tmps[71]? = some (.int .i64 ck) := by rw [ha]; exact putSel_on (e := (5, 71, .int .i64 ck)) 5 rfl rfl (hon 5 (by kernel_rfl)) rfl
        replace ha := Aside0.mk ha
        have HBW := Aside0.mk Q_HBW
        have SZ := Aside0.mk Q_SZ
        have BX := Aside0.mk Q_BX
        have OT := Aside0.mk Q_OT
        have LE := Aside0.mk (Q_LE (hoff 24 (by kernel_rfl)))
        have k1_ : (0 : Int) ≤ ck := hk0
        have k2_ := hk1
        refine value_ (w1 := w') (v := .pointer (some ⟨q, ck.toNat, none⟩)) (by rfl) rfl ?_ ?_
        · go_simp
          (try simp only [i64_w])
          try rfl
        refine hK.out _ _ ⟨v52_, q51_, wp_, m21_, (by rw [ha.out]; exact putSel_upk 6 hb_ rfl rfl rfl), Q_HBW, Q_SZ, Q_BX, Q_OT, Q_LE, Q_R44, Q_PH2, fun h0_ _ => absurd ((hoff 22 (by kernel_rfl)).symm.trans h0_) (by decide), fun h0_ => absurd ((hoff 24 (by kernel_rfl)).symm.trans h0_) (by decide), Q_X21_⟩
      refine steps_cons ?_ ?_
      · rintro b a w' ⟨v52_, q51_, wp_, m21_, ha, Q_HBW, Q_SZ, Q_BX, Q_OT, Q_LE, Q_R44, Q_PH2, Q_R52, Q_END, Q_X21_⟩ hb_ hon hoff
        refine ⟨_, rfl, fun K hK => ?_⟩
        have e72 : a.tmps[72]? = some (.pointer (some ⟨q, ck.toNat, none⟩)) := by rw [ha]; exact putSel_on (e := (6, 72, .pointer (some ⟨q, ck.toNat, none⟩))) 6 rfl rfl (hon 6 (by kernel_rfl)) rfl
        replace ha := Aside0.mk ha
        have HBW := Aside0.mk Q_HBW
        have SZ := Aside0.mk Q_SZ
        have BX := Aside0.mk Q_BX
        have OT := Aside0.mk Q_OT
        have LE := Aside0.mk (Q_LE (hoff 24 (by kernel_rfl)))
        have k0_ := (LE.out.typed hk0 hk1).2
        refine value_ (w1 := w') (v := .slice vA xs.length vc) (by rfl) rfl ?_ ?_
        · go_simp
          (try simp only [i64_w])
          try rfl
        refine hK.out _ _ ⟨v52_, q51_, wp_, m21_, (by rw [ha.out]; exact putSel_upk 7 hb_ rfl rfl rfl), Q_HBW, Q_SZ, Q_BX, Q_OT, Q_LE, Q_R44, Q_PH2, fun h0_ _ => absurd ((hoff 22 (by kernel_rfl)).symm.trans h0_) (by decide), fun h0_ => absurd ((hoff 24 (by kernel_rfl)).symm.trans h0_) (by decide), Q_X21_⟩
      refine steps_cons ?_ ?_
      · rintro b a w' ⟨v52_, q51_, wp_, m21_, ha, Q_HBW, Q_SZ, Q_BX, Q_OT, Q_LE, Q_R44, Q_PH2, Q_R52, Q_END, Q_X21_⟩ hb_ hon hoff
        refine ⟨_, rfl, fun K hK => ?_⟩
        have e9 : a.tmps[9]? = some (.pointer (some ⟨w.heap.size + 1, 0, none⟩)) := by rw [ha]; exact (putSel_off rfl).trans rfl
        replace ha := Aside0.mk ha
        have HBW := Aside0.mk Q_HBW
        have SZ := Aside0.mk Q_SZ
        have BX := Aside0.mk Q_BX
        have OT := Aside0.mk Q_OT
        have LE := Aside0.mk (Q_LE (hoff 24 (by kernel_rfl)))
        have R44 := Aside0.mk (Q_R44 (hoff 21 (by kernel_rfl)))
        have k0_ := (blk_cell BX.out.2.1 0).trans rfl
        have k1_ := (blk_cell BX.out.2.1 1).trans rfl
        have k2_ := (blk_cell BX.out.2.1 2).trans rfl
        have k3_ := (blk_cell BX.out.2.1 3).trans rfl
        have k4_ := (blk_cell BX.out.2.1 4).trans rfl
        have k5_ := (blk_cell BX.out.2.1 5).trans rfl
        refine value_ (w1 := w') (v := .agg #[.int .i64 a3.f0, .int .i64 a3.f1, .int .i64 a3.f2, .int .i64 a3.f3, .int .i64 0, .int .i64 a3.f5]) (by rfl) rfl ?_ ?_
        · go_simp
          (try simp only [i64_w])
          try rfl
        refine hK.out _ _ ⟨v52_, q51_, wp_, m21_, (by rw [ha.out]; exact putSel_upk 8 hb_ rfl rfl rfl), Q_HBW, Q_SZ, Q_BX, Q_OT, Q_LE, Q_R44, fun h0_ _ => absurd ((hoff 21 (by kernel_rfl)).symm.trans h0_) (by decide), fun h0_ _ => absurd ((hoff 22 (by kernel_rfl)).symm.trans h0_) (by decide), fun h0_ => absurd ((hoff 24 (by kernel_rfl)).symm.trans h0_) (by decide), fun h0_ => absurd ((hoff 21 (by kernel_rfl)).symm.trans h0_) (by decide)⟩
      refine steps_cons ?_ ?_
      · rintro b a w' ⟨v52_, q51_, wp_, m21_, ha, Q_HBW, Q_SZ, Q_BX, Q_OT, Q_LE, Q_R44, Q_PH2, Q_R52, Q_END, Q_X21_⟩ hb_ hon hoff
        refine ⟨_, rfl, fun K hK => ?_⟩
        have e19 : a.tmps[19]? = some (.int .i64 cf) := by rw [ha]; exact (putSel_off rfl).trans rfl
        replace ha := Aside0.mk ha
        have HBW := Aside0.mk Q_HBW
        have SZ := Aside0.mk Q_SZ
        have BX := Aside0.mk Q_BX
        have OT := Aside0.mk Q_OT
        have LE := Aside0.mk (Q_LE (hoff 24 (by kernel_rfl)))
        have R44 := Aside0.mk (Q_R44 (hoff 21 (by kernel_rfl)))
        refine value_ (w1 := w') (v := .int .i64 cf) (by rfl) rfl ?_ ?_
        · go_simp
          (try simp only [i64_w])
          try rfl
        refine hK.out _ _ ⟨v52_, q51_, wp_, m21_, (by rw [ha.out]; exact putSel_upk 9 hb_ rfl rfl rfl), Q_HBW, Q_SZ, Q_BX, Q_OT, Q_LE, Q_R44, fun h0_ _ => absurd ((hoff 21 (by kernel_rfl)).symm.trans h0_) (by decide), fun h0_ _ => absurd ((hoff 22 (by kernel_rfl)).symm.trans h0_) (by decide), fun h0_ => absurd ((hoff 24 (by kernel_rfl)).symm.trans h0_) (by decide), fun h0_ => absurd ((hoff 21 (by kernel_rfl)).symm.trans h0_) (by decide)⟩
      refine steps_cons ?_ ?_
      · rintro b a w' ⟨v52_, q51_, wp_, m21_, ha, Q_HBW, Q_SZ, Q_BX, Q_OT, Q_LE, Q_R44, Q_PH2, Q_R52, Q_END, Q_X21_⟩ hb_ hon hoff
        refine ⟨_, rfl, fun K hK => ?_⟩
        have e19 : a.tmps[19]? = some (.int .i64 cf) := by rw [ha]; exact (putSel_off rfl).trans rfl
        replace ha := Aside0.mk ha
        have HBW := Aside0.mk Q_HBW
        have SZ := Aside0.mk Q_SZ
        have BX := Aside0.mk Q_BX
        have OT := Aside0.mk Q_OT
        have LE := Aside0.mk (Q_LE (hoff 24 (by kernel_rfl)))
        have R44 := Aside0.mk (Q_R44 (hoff 21 (by kernel_rfl)))
        refine value_ (w1 := w') (v := .int .i64 cf) (by rfl) rfl ?_ ?_
        · go_simp
          (try simp only [i64_w])
          try rfl
        refine hK.out _ _ ⟨v52_, q51_, wp_, m21_, (by rw [ha.out]; exact putSel_upk 10 hb_ rfl rfl rfl), Q_HBW, Q_SZ, Q_BX, Q_OT, Q_LE, Q_R44, fun h0_ _ => absurd ((hoff 21 (by kernel_rfl)).symm.trans h0_) (by decide), fun h0_ _ => absurd ((hoff 22 (by kernel_rfl)).symm.trans h0_) (by decide), fun h0_ => absurd ((hoff 24 (by kernel_rfl)).symm.trans h0_) (by decide), fun h0_ => absurd ((hoff 21 (by kernel_rfl)).symm.trans h0_) (by decide)⟩
      refine steps_cons ?_ ?_
      · rintro b a w' ⟨v52_, q51_, wp_, m21_, ha, Q_HBW, Q_SZ, Q_BX, Q_OT, Q_LE, Q_R44, Q_PH2, Q_R52, Q_END, Q_X21_⟩ hb_ hon hoff
        refine ⟨_, rfl, fun K hK => ?_⟩
        have e5 : a.tmps[5]? = some (.int .u8 a5) := by rw [ha]; exact (putSel_off rfl).trans rfl
        replace ha := Aside0.mk ha
        have HBW := Aside0.mk Q_HBW
        have SZ := Aside0.mk Q_SZ
        have BX := Aside0.mk Q_BX
        have OT := Aside0.mk Q_OT
        have LE := Aside0.mk (Q_LE (hoff 24 (by kernel_rfl)))
        have R44 := Aside0.mk (Q_R44 (hoff 21 (by kernel_rfl)))
        refine value_ (w1 := w') (v := .int .u8 a5) (by rfl) rfl ?_ ?_
        · go_simp
          (try simp only [i64_w])
          try rfl
        refine hK.out _ _ ⟨v52_, q51_, wp_, m21_, (by rw [ha.out]; exact putSel_upk 11 hb_ rfl rfl rfl), Q_HBW, Q_SZ, Q_BX, Q_OT, Q_LE, Q_R44, fun h0_ _ => absurd ((hoff 21 (by kernel_rfl)).symm.trans h0_) (by decide), fun h0_ _ => absurd ((hoff 22 (by kernel_rfl)).symm.trans h0_) (by decide), fun h0_ => absurd ((hoff 24 (by kernel_rfl)).symm.trans h0_) (by decide), fun h0_ => absurd ((hoff 21 (by kernel_rfl)).symm.trans h0_) (by decide)⟩
      refine steps_cons ?_ ?_
      · rintro b a w' ⟨v52_, q51_, wp_, m21_, ha, Q_HBW, Q_SZ, Q_BX, Q_OT, Q_LE, Q_R44, Q_PH2, Q_R52, Q_END, Q_X21_⟩ hb_ hon hoff
        refine ⟨_, rfl, fun K hK => ?_⟩
        have e77 : a.tmps[77]? = some (.int .u8 a5) := by rw [ha]; exact putSel_on (e := (11, 77, .int .u8 a5)) 11 rfl rfl (hon 11 (by kernel_rfl)) rfl
        replace ha := Aside0.mk ha
        have HBW := Aside0.mk Q_HBW
        have SZ := Aside0.mk Q_SZ
        have BX := Aside0.mk Q_BX
        have OT := Aside0.mk Q_OT
        have LE := Aside0.mk (Q_LE (hoff 24 (by kernel_rfl)))
        have R44 := Aside0.mk (Q_R44 (hoff 21 (by kernel_rfl)))
        refine value_ (w1 := w') (v := .int .i64 a5) (by rfl) rfl ?_ ?_
        · go_simp
          (try simp only [i64_w])
          exact wr64 (by omega) (by omega)
        refine hK.out _ _ ⟨v52_, q51_, wp_, m21_, (by rw [ha.out]; exact putSel_upk 12 hb_ rfl rfl rfl), HBW.out, SZ.out, BX.out, OT.out, fun _ => LE.out, fun _ => R44.out, fun h0_ _ => absurd ((hoff 21 (by kernel_rfl)).symm.trans h0_) (by decide), fun h0_ _ => absurd ((hoff 22 (by kernel_rfl)).symm.trans h0_) (by decide), fun h0_ => absurd ((hoff 24 (by kernel_rfl)).symm.trans h0_) (by decide), fun h0_ => absurd ((hoff 21 (by kernel_rfl)).symm.trans h0_) (by decide)⟩
      refine steps_cons ?_ ?_
      · rintro b a w' ⟨v52_, q51_, wp_, m21_, ha, Q_HBW, Q_SZ, Q_BX, Q_OT, Q_LE, Q_R44, Q_PH2, Q_R52, Q_END, Q_X21_⟩ hb_ hon hoff
        refine ⟨_, rfl, fun K hK => ?_⟩
        have e6 : a.tmps[6]? = some (.pointer (some ⟨w.heap.size, 0, none⟩)) := by rw [ha]; exact (putSel_off rfl).trans rfl
        replace ha := Aside0.mk ha
        have HBW := Aside0.mk Q_HBW
        have SZ := Aside0.mk Q_SZ
        have BX := Aside0.mk Q_BX
        have OT := Aside0.mk Q_OT
        have LE := Aside0.mk (Q_LE (hoff 24 (by kernel_rfl)))
        have R44 := Aside0.mk (Q_R44 (hoff 21 (by kernel_rfl)))
        refine value_ (w1 := w') (v := .pointer (some ⟨w.heap.size, 3, none⟩)) (by rfl) rfl ?_ ?_
        · go_simp
          (try simp only [i64_w])
          try rfl
        refine hK.out _ _ ⟨v52_, q51_, wp_, m21_, (by rw [ha.out]; exact putSel_upk 13 hb_ rfl rfl rfl), Q_HBW, Q_SZ, Q_BX, Q_OT, Q_LE, Q_R44, fun h0_ _ => absurd ((hoff 21 (by kernel_rfl)).symm.trans h0_) (by decide), fun h0_ _ => absurd ((hoff 22 (by kernel_rfl)).symm.trans h0_) (by decide), fun h0_ => absurd ((hoff 24 (by kernel_rfl)).symm.trans h0_) (by decide), fun h0_ => absurd ((hoff 21 (by kernel_rfl)).symm.trans h0_) (by decide)⟩
      refine steps_cons ?_ ?_
      · rintro b a w' ⟨v52_, q51_, wp_, m21_, ha, Q_HBW, Q_SZ, Q_BX, Q_OT, Q_LE, Q_R44, Q_PH2, Q_R52, Q_END, Q_X21_⟩ hb_ hon hoff
        refine ⟨_, rfl, fun K hK => ?_⟩
        have e79 : a.tmps[79]? = some (.pointer (some ⟨w.heap.size, 3, none⟩)) := by rw [ha]; exact putSel_on (e := (13, 79, .pointer (some ⟨w.heap.size, 3, none⟩))) 13 rfl rfl (hon 13 (by kernel_rfl)) rfl
        replace ha := Aside0.mk ha
        have HBW := Aside0.mk Q_HBW
        have SZ := Aside0.mk Q_SZ
        have BX := Aside0.mk Q_BX
        have OT := Aside0.mk Q_OT
        have LE := Aside0.mk (Q_LE (hoff 24 (by kernel_rfl)))
        have R44 := Aside0.mk (Q_R44 (hoff 21 (by kernel_rfl)))
        have k0_ := (blk_cell BX.out.1 3).trans rfl
        refine value_ (w1 := w') (v := .slice a0.A3 a0.su.length a0.c3) (by rfl) rfl ?_ ?_
        · go_simp
          (try simp only [i64_w])
          try rfl
        refine hK.out _ _ ⟨v52_, q51_, wp_, m21_, (by rw [ha.out]; exact putSel_upk 14 hb_ rfl rfl rfl), Q_HBW, Q_SZ, Q_BX, Q_OT, Q_LE, Q_R44, fun h0_ _ => absurd ((hoff 21 (by kernel_rfl)).symm.trans h0_) (by decide), fun h0_ _ => absurd ((hoff 22 (by kernel_rfl)).symm.trans h0_) (by decide), fun h0_ => absurd ((hoff 24 (by kernel_rfl)).symm.trans h0_) (by decide), fun h0_ => absurd ((hoff 21 (by kernel_rfl)).symm.trans h0_) (by decide)⟩
      refine steps_cons ?_ ?_
      · rintro b a w' ⟨v52_, q51_, wp_, m21_, ha, Q_HBW, Q_SZ, Q_BX, Q_OT, Q_LE, Q_R44, Q_PH2, Q_R52, Q_END, Q_X21_⟩ hb_ hon hoff
        refine ⟨_, rfl, fun K hK => ?_⟩
        have e80 : a.tmps[80]? = some (.slice a0.A3 a0.su.length a0.c3) := by rw [ha]; exact putSel_on (e := (14, 80, .slice a0.A3 a0.su.length a0.c3)) 14 rfl rfl (hon 14 (by kernel_rfl)) rfl
        replace ha := Aside0.mk ha
        have HBW := Aside0.mk Q_HBW
        have SZ := Aside0.mk Q_SZ
        have BX := Aside0.mk Q_BX
        have OT := Aside0.mk Q_OT
        have LE := Aside0.mk (Q_LE (hoff 24 (by kernel_rfl)))
        have R44 := Aside0.mk (Q_R44 (hoff 21 (by kernel_rfl)))
        refine value_ (w1 := w') (v := .int .i64 (a0.su.length : Int)) (by rfl) rfl ?_ ?_
        · go_simp
          (try simp only [i64_w])
          try rfl
        refine hK.out _ _ ⟨v52_, q51_, wp_, m21_, (by rw [ha.out]; exact putSel_upk 15 hb_ rfl rfl rfl), Q_HBW, Q_SZ, Q_BX, Q_OT, Q_LE, Q_R44, fun h0_ _ => absurd ((hoff 21 (by kernel_rfl)).symm.trans h0_) (by decide), fun h0_ _ => absurd ((hoff 22 (by kernel_rfl)).symm.trans h0_) (by decide), fun h0_ => absurd ((hoff 24 (by kernel_rfl)).symm.trans h0_) (by decide), fun h0_ => absurd ((hoff 21 (by kernel_rfl)).symm.trans h0_) (by decide)⟩
      refine steps_cons ?_ ?_
      · rintro b a w' ⟨v52_, q51_, wp_, m21_, ha, Q_HBW, Q_SZ, Q_BX, Q_OT, Q_LE, Q_R44, Q_PH2, Q_R52, Q_END, Q_X21_⟩ hb_ hon hoff
        refine ⟨_, rfl, fun K hK => ?_⟩
        have e19 : a.tmps[19]? = some (.int .i64 cf) := by rw [ha]; exact (putSel_off rfl).trans rfl
        replace ha := Aside0.mk ha
        have HBW := Aside0.mk Q_HBW
        have SZ := Aside0.mk Q_SZ
        have BX := Aside0.mk Q_BX
        have OT := Aside0.mk Q_OT
        have LE := Aside0.mk (Q_LE (hoff 24 (by kernel_rfl)))
        have R44 := Aside0.mk (Q_R44 (hoff 21 (by kernel_rfl)))
        refine value_ (w1 := w') (v := .int .i64 cf) (by rfl) rfl ?_ ?_
        · go_simp
          (try simp only [i64_w])
          try rfl
        refine hK.out _ _ ⟨v52_, q51_, wp_, m21_, (by rw [ha.out]; exact putSel_upk 16 hb_ rfl rfl rfl), Q_HBW, Q_SZ, Q_BX, Q_OT, Q_LE, Q_R44, fun h0_ _ => absurd ((hoff 21 (by kernel_rfl)).symm.trans h0_) (by decide), fun h0_ _ => absurd ((hoff 22 (by kernel_rfl)).symm.trans h0_) (by decide), fun h0_ => absurd ((hoff 24 (by kernel_rfl)).symm.trans h0_) (by decide), fun h0_ => absurd ((hoff 21 (by kernel_rfl)).symm.trans h0_) (by decide)⟩
      refine steps_cons ?_ ?_
      · rintro b a w' ⟨v52_, q51_, wp_, m21_, ha, Q_HBW, Q_SZ, Q_BX, Q_OT, Q_LE, Q_R44, Q_PH2, Q_R52, Q_END, Q_X21_⟩ hb_ hon hoff
        refine ⟨_, rfl, fun K hK => ?_⟩
        have e81 : a.tmps[81]? = some (.int .i64 (a0.su.length : Int)) := by rw [ha]; exact putSel_on (e := (15, 81, .int .i64 (a0.su.length : Int))) 15 rfl rfl (hon 15 (by kernel_rfl)) rfl
        have e82 : a.tmps[82]? = some (.int .i64 cf) := by rw [ha]; exact putSel_on (e := (16, 82, .int .i64 cf)) 16 rfl rfl (hon 16 (by kernel_rfl)) rfl
        replace ha := Aside0.mk ha
        have HBW := Aside0.mk Q_HBW
        have SZ := Aside0.mk Q_SZ
        have BX := Aside0.mk Q_BX
        have OT := Aside0.mk Q_OT
        have LE := Aside0.mk (Q_LE (hoff 24 (by kernel_rfl)))
        have R44 := Aside0.mk (Q_R44 (hoff 21 (by kernel_rfl)))
        refine value_ (w1 := w') (v := .int .i64 ((a0.su.length : Int) - cf)) (by rfl) rfl ?_ ?_
        · go_simp
          (try simp only [i64_w])
          exact HWR.out.1
        refine hK.out _ _ ⟨v52_, q51_, wp_, m21_, (by rw [ha.out]; exact putSel_upk 17 hb_ rfl rfl rfl), HBW.out, SZ.out, BX.out, OT.out, fun _ => LE.out, fun _ => R44.out, fun h0_ _ => absurd ((hoff 21 (by kernel_rfl)).symm.trans h0_) (by decide), fun h0_ _ => absurd ((hoff 22 (by kernel_rfl)).symm.trans h0_) (by decide), fun h0_ => absurd ((hoff 24 (by kernel_rfl)).symm.trans h0_) (by decide), fun h0_ => absurd ((hoff 21 (by kernel_rfl)).symm.trans h0_) (by decide)⟩
      refine steps_cons ?_ ?_
      · rintro b a w' ⟨v52_, q51_, wp_, m21_, ha, Q_HBW, Q_SZ, Q_BX, Q_OT, Q_LE, Q_R44, Q_PH2, Q_R52, Q_END, Q_X21_⟩ hb_ hon hoff
        refine ⟨_, rfl, fun K hK => ?_⟩
        have e78 : a.tmps[78]? = some (.int .i64 a5) := by rw [ha]; exact putSel_on (e := (12, 78, .int .i64 a5)) 12 rfl rfl (hon 12 (by kernel_rfl)) rfl
        have e83 : a.tmps[83]? = some (.int .i64 ((a0.su.length : Int) - cf)) := by rw [ha]; exact putSel_on (e := (17, 83, .int .i64 ((a0.su.length : Int) - cf))) 17 rfl rfl (hon 17 (by kernel_rfl)) rfl
        replace ha := Aside0.mk ha
        have HBW := Aside0.mk Q_HBW
        have SZ := Aside0.mk Q_SZ
        have BX := Aside0.mk Q_BX
        have OT := Aside0.mk Q_OT
        have LE := Aside0.mk (Q_LE (hoff 24 (by kernel_rfl)))
        have R44 := Aside0.mk (Q_R44 (hoff 21 (by kernel_rfl)))
        refine value_ (w1 := w') (v := .int .i64 dm) (by rfl) rfl ?_ ?_
        · have k0_ : ¬ (((a0.su.length : Int) - cf) = 0) := by omega
          go_simp
          (try simp only [i64_w])
          rw [HDM.out]
          exact Int.tmod_eq_emod_of_nonneg q5.1
        refine hK.out _ _ ⟨v52_, q51_, wp_, m21_, (by rw [ha.out]; exact putSel_upk 18 hb_ rfl rfl rfl), HBW.out, SZ.out, BX.out, OT.out, fun _ => LE.out, fun _ => R44.out, fun h0_ _ => absurd ((hoff 21 (by kernel_rfl)).symm.trans h0_) (by decide), fun h0_ _ => absurd ((hoff 22 (by kernel_rfl)).symm.trans h0_) (by decide), fun h0_ => absurd ((hoff 24 (by kernel_rfl)).symm.trans h0_) (by decide), fun h0_ => absurd ((hoff 21 (by kernel_rfl)).symm.trans h0_) (by decide)⟩
      refine steps_cons ?_ ?_
      · rintro b a w' ⟨v52_, q51_, wp_, m21_, ha, Q_HBW, Q_SZ, Q_BX, Q_OT, Q_LE, Q_R44, Q_PH2, Q_R52, Q_END, Q_X21_⟩ hb_ hon hoff
        refine ⟨_, rfl, fun K hK => ?_⟩
        have e76 : a.tmps[76]? = some (.int .i64 cf) := by rw [ha]; exact putSel_on (e := (10, 76, .int .i64 cf)) 10 rfl rfl (hon 10 (by kernel_rfl)) rfl
        have e84 : a.tmps[84]? = some (.int .i64 dm) := by rw [ha]; exact putSel_on (e := (18, 84, .int .i64 dm)) 18 rfl rfl (hon 18 (by kernel_rfl)) rfl
        replace ha := Aside0.mk ha
        have HBW := Aside0.mk Q_HBW
        have SZ := Aside0.mk Q_SZ
        have BX := Aside0.mk Q_BX
        have OT := Aside0.mk Q_OT
        have LE := Aside0.mk (Q_LE (hoff 24 (by kernel_rfl)))
        have R44 := Aside0.mk (Q_R44 (hoff 21 (by kernel_rfl)))
        refine value_ (w1 := w') (v := .int .i64 (cf + dm)) (by rfl) rfl ?_ ?_
        · go_simp
          (try simp only [i64_w])
          exact HWR.out.2
        refine hK.out _ _ ⟨v52_, q51_, wp_, m21_, (by rw [ha.out]; exact putSel_upk 19 hb_ rfl rfl rfl), HBW.out, SZ.out, BX.out, OT.out, fun _ => LE.out, fun _ => R44.out, fun h0_ _ => absurd ((hoff 21 (by kernel_rfl)).symm.trans h0_) (by decide), fun h0_ _ => absurd ((hoff 22 (by kernel_rfl)).symm.trans h0_) (by decide), fun h0_ => absurd ((hoff 24 (by kernel_rfl)).symm.trans h0_) (by decide), fun h0_ => absurd ((hoff 21 (by kernel_rfl)).symm.trans h0_) (by decide)⟩
      refine steps_cons ?_ ?_
      · rintro b a w' ⟨v52_, q51_, wp_, m21_, ha, Q_HBW, Q_SZ, Q_BX, Q_OT, Q_LE, Q_R44, Q_PH2, Q_R52, Q_END, Q_X21_⟩ hb_ hon hoff
        refine ⟨_, rfl, fun K hK => ?_⟩
        have e74 : a.tmps[74]? = some (.agg #[.int .i64 a3.f0, .int .i64 a3.f1, .int .i64 a3.f2, .int .i64 a3.f3, .int .i64 0, .int .i64 a3.f5]) := by rw [ha]; exact putSel_on (e := (8, 74, .agg #[.int .i64 a3.f0, .int .i64 a3.f1, .int .i64 a3.f2, .int .i64 a3.f3, .int .i64 0, .int .i64 a3.f5])) 8 rfl rfl (hon 8 (by kernel_rfl)) rfl
        have e75 : a.tmps[75]? = some (.int .i64 cf) := by rw [ha]; exact putSel_on (e := (9, 75, .int .i64 cf)) 9 rfl rfl (hon 9 (by kernel_rfl)) rfl
        have e85 : a.tmps[85]? = some (.int .i64 (cf + dm)) := by rw [ha]; exact putSel_on (e := (19, 85, .int .i64 (cf + dm))) 19 rfl rfl (hon 19 (by kernel_rfl)) rfl
        replace ha := Aside0.mk ha
        have HBW := Aside0.mk Q_HBW
        have SZ := Aside0.mk Q_SZ
        have BX := Aside0.mk Q_BX
        have OT := Aside0.mk Q_OT
        have LE := Aside0.mk (Q_LE (hoff 24 (by kernel_rfl)))
        have R44 := Aside0.mk (Q_R44 (hoff 21 (by kernel_rfl)))
        refine value_ (w1 := w') (v := .agg #[.int .i64 a3.f0, .int .i64 a3.f1, .int .i64 a3.f2, .int .i64 a3.f3, .int .i64 0, .int .i64 a3.f5, .int .i64 cf, .int .i64 (cf + dm)]) (by rfl) rfl ?_ ?_
        · go_simp
          (try simp only [i64_w])
          try rfl
        refine hK.out _ _ ⟨v52_, q51_, wp_, m21_, (by rw [ha.out]; exact putSel_upk 20 hb_ rfl rfl rfl), Q_HBW, Q_SZ, Q_BX, Q_OT, Q_LE, Q_R44, fun h0_ _ => absurd ((hoff 21 (by kernel_rfl)).symm.trans h0_) (by decide), fun h0_ _ => absurd ((hoff 22 (by kernel_rfl)).symm.trans h0_) (by decide), fun h0_ => absurd ((hoff 24 (by kernel_rfl)).symm.trans h0_) (by decide), fun h0_ => absurd ((hoff 21 (by kernel_rfl)).symm.trans h0_) (by decide)⟩
      refine steps_cons ?_ ?_
      · rintro b a w' ⟨v52_, q51_, wp_, m21_, ha, Q_HBW, Q_SZ, Q_BX, Q_OT, Q_LE, Q_R44, Q_PH2, Q_R52, Q_END, Q_X21_⟩ hb_ hon hoff
        refine ⟨_, rfl, fun K hK => ?_⟩
        have e86 : a.tmps[86]? = some (.agg #[.int .i64 a3.f0, .int .i64 a3.f1, .int .i64 a3.f2, .int .i64 a3.f3, .int .i64 0, .int .i64 a3.f5, .int .i64 cf, .int .i64 (cf + dm)]) := by rw [ha]; exact putSel_on (e := (20, 86, .agg #[.int .i64 a3.f0, .int .i64 a3.f1, .int .i64 a3.f2, .int .i64 a3.f3, .int .i64 0, .int .i64 a3.f5, .int .i64 cf, .int .i64 (cf + dm)])) 20 rfl rfl (hon 20 (by kernel_rfl)) rfl
        replace ha := Aside0.mk ha
        have HBW := Aside0.mk Q_HBW
        have SZ := Aside0.mk Q_SZ
        have BX := Aside0.mk Q_BX
        have OT := Aside0.mk Q_OT
        have LE := Aside0.mk (Q_LE (hoff 24 (by kernel_rfl)))
        have R44 := Aside0.mk (Q_R44 hb_)
        refine value_ (w1 := w'.alloc (.cells #[.int .i64 a3.f0, .int .i64 a3.f1, .int .i64 a3.f2, .int .i64 a3.f3, .int .i64 0, .int .i64 a3.f5, .int .i64 cf, .int .i64 (cf + dm)] 61)) (v := .slice (some ⟨w'.heap.size, 0, none⟩) 1 1) (by rfl) rfl (by go_simp) ?_
        have hbb := b1 w' (.cells #[.int .i64 a3.f0, .int .i64 a3.f1, .int .i64 a3.f2, .int .i64 a3.f3, .int .i64 0, .int .i64 a3.f5, .int .i64 cf, .int .i64 (cf + dm)] 61)
        refine hK.out _ _ ⟨v52_, w'.heap.size, w', (.slice (some ⟨w'.heap.size, 0, none⟩) 1 1), (by rw [ha.out]; exact putSel_upk 21 hb_ rfl rfl rfl), bt HBW.out hbb, Nat.le_trans SZ.out hbb.size, ⟨blk_below BX.out.1 hbb, blk_below BX.out.2.1 hbb, blk_below BX.out.2.2 hbb⟩, ⟨OT.out.1.below hbb, OT.out.2.below hbb⟩, fun _ => LE.out.below hbb, fun h0_ => absurd ((up_self b 21).symm.trans h0_) (by decide), fun _ _ => ⟨rfl, rfl, HBW.out, SZ.out, BX.out, LE.out, R44.out, OT.out⟩, fun h0_ _ => absurd ((hoff 22 (by kernel_rfl)).symm.trans h0_) (by decide), fun h0_ => absurd ((hoff 24 (by kernel_rfl)).symm.trans h0_) (by decide), fun _ => rfl⟩
      refine steps_cons ?_ ?_
      · rintro b a w' ⟨v52_, q51_, wp_, m21_, ha, Q_HBW, Q_SZ, Q_BX, Q_OT, Q_LE, Q_R44, Q_PH2, Q_R52, Q_END, Q_X21_⟩ hb_ hon hoff
        refine ⟨_, rfl, fun K hK => ?_⟩
        have e73 : a.tmps[73]? = some (.slice vA xs.length vc) := by rw [ha]; exact putSel_on (e := (7, 73, .slice vA xs.length vc)) 7 rfl rfl (hon 7 (by kernel_rfl)) rfl
        have e87 : a.tmps[87]? = some (m21_) := by rw [ha]; exact putSel_on (e := (21, 87, m21_)) 21 rfl rfl (hon 21 (by kernel_rfl)) rfl
        rw [Q_X21_ (hon 21 (by kernel_rfl))] at e87
        replace ha := Aside0.mk ha
        have HBW := Aside0.mk Q_HBW
        have SZ := Aside0.mk Q_SZ
        have BX := Aside0.mk Q_BX
        have OT := Aside0.mk Q_OT
        have LE := Aside0.mk (Q_LE (hoff 24 (by kernel_rfl)))
        have PH2 := Aside0.mk (Q_PH2 (hon 21 (by kernel_rfl)) hb_)
        obtain ⟨p1_, p2_, p3_, p4_, p5_, p6_, p7_, p8_⟩ := PH2.out
        rw [p2_] at e87
        clear HBW SZ BX LE OT PH2
        subst p1_
        refine Kd.R_append_step k61 (w0 := w) w.heap.size (by rfl) (.tmp 73) (.tmp 87) 59 61 (.agg #[(.int .i64 0), (.int .i64 0), (.int .i64 0), (.int .i64 0), (.int .i64 0), (.int .i64 0), (.int .i64 0), (.int .i64 0)]) 64 rfl Try.underlying59 info61 rfl (by decide) (by decide) (.slice vA xs.length vc) xs (⟨⟨a3.f0, a3.f1, a3.f2, a3.f3, 0, a3.f5⟩, cf, cf + dm⟩ : S61) [.int .i64 a3.f0, .int .i64 a3.f1, .int .i64 a3.f2, .int .i64 a3.f3, .int .i64 0, .int .i64 a3.f5, .int .i64 cf, .int .i64 (cf + dm)] okw (fun _ => False) (by simp only [Act.eval, Array.getD_eq_getD_getElem?, Option.getD_some, e73]) (by simp only [Act.eval, Array.getD_eq_getD_getElem?, Option.getD_some, e87]) (k61_mkM _ _ _ _) (fun _ hk => hk.elim) (fun k hk => HW2.out k (Nat.le_trans p4_ hk)) p7_ p3_ p3_.size (by omega) ?_
        intro v_ w2 hR_ hB_ hg_ hat_
        have hv_ := HVB.out
        have hwa_ := HWA.out
        obtain ⟨⟨hl1, hl2, hl3⟩, ⟨hh1, hh2, hh3⟩, o12, o13, o23⟩ := HLO.out; obtain ⟨n12, n13, n23⟩ := HGG.out; obtain ⟨hg1, hg2, hg3⟩ := HNG.out
        refine hK.out _ _ ⟨v_, q51_, wp_, m21_, (by rw [ha.out]; exact putSel_upk 22 hb_ rfl rfl rfl), hB_, Nat.le_trans p4_ hg_.size, ⟨blk_grown p5_.1 hg_ (Kd.R_ne p7_ p5_.1 (by decide)), blk_grown p5_.2.1 hg_ (Kd.R_ne p7_ p5_.2.1 (by decide)), blk_grown p5_.2.2 hg_ (Kd.R_ne p7_ p5_.2.2 (by decide))⟩, ⟨p8_.1.grown hg_ (Kd.R_ne p7_ p8_.1.box (by decide)) (fun k hk _ e => by have h1 := hv_ k e.symm; omega), p8_.2.grown hg_ (Kd.R_ne p7_ p8_.2.box (by decide)) (fun k hk _ e => by have h1 := hv_ k e.symm; omega)⟩, fun _ => p6_.grown p7_ hg_, fun h0_ => absurd ((hon 21 (by kernel_rfl)).symm.trans h0_) (by decide), fun _ h1_ => absurd ((up_self b 22).symm.trans h1_) (by decide), fun _ _ => hR_, fun h0_ => absurd ((hoff 24 (by kernel_rfl)).symm.trans h0_) (by decide), Q_X21_⟩
      refine steps_cons ?_ ?_
      · rintro b a w' ⟨v52_, q51_, wp_, m21_, ha, Q_HBW, Q_SZ, Q_BX, Q_OT, Q_LE, Q_R44, Q_PH2, Q_R52, Q_END, Q_X21_⟩ hb_ hon hoff
        refine ⟨_, rfl, fun K hK => ?_⟩
        have e67 : a.tmps[67]? = some (.slice (some ⟨q, 0, none⟩) X2.ca.length X2.c2) := by rw [ha]; exact putSel_on (e := (1, 67, .slice (some ⟨q, 0, none⟩) X2.ca.length X2.c2)) 1 rfl rfl (hon 1 (by kernel_rfl)) rfl
        have e68 : a.tmps[68]? = some (.int .i64 ck) := by rw [ha]; exact putSel_on (e := (2, 68, .int .i64 ck)) 2 rfl rfl (hon 2 (by kernel_rfl)) rfl
        replace ha := Aside0.mk ha
        have HBW := Aside0.mk Q_HBW
        have SZ := Aside0.mk Q_SZ
        have BX := Aside0.mk Q_BX
        have OT := Aside0.mk Q_OT
        have LE := Aside0.mk (Q_LE (hoff 24 (by kernel_rfl)))
        have R52 := Aside0.mk (Q_R52 (hon 22 (by kernel_rfl)) (hoff 24 (by kernel_rfl)))
        have k1_ : (0 : Int) ≤ ck := hk0
        have k2_ := hk1
        refine value_ (w1 := w') (v := .pointer (some ⟨q, ck.toNat, none⟩)) (by rfl) rfl ?_ ?_
        · go_simp
          (try simp only [i64_w])
          try rfl
        refine hK.out _ _ ⟨v52_, q51_, wp_, m21_, (by rw [ha.out]; exact putSel_upk 23 hb_ rfl rfl rfl), Q_HBW, Q_SZ, Q_BX, Q_OT, Q_LE, fun h0_ => absurd ((hon 21 (by kernel_rfl)).symm.trans h0_) (by decide), fun _ h1_ => absurd ((hon 22 (by kernel_rfl)).symm.trans h1_) (by decide), Q_R52, fun h0_ => absurd ((hoff 24 (by kernel_rfl)).symm.trans h0_) (by decide), Q_X21_⟩
      refine steps_cons ?_ ?_
      · rintro b a w' ⟨v52_, q51_, wp_, m21_, ha, Q_HBW, Q_SZ, Q_BX, Q_OT, Q_LE, Q_R44, Q_PH2, Q_R52, Q_END, Q_X21_⟩ hb_ hon hoff
        refine ⟨_, rfl, fun K hK => ?_⟩
        have e89 : a.tmps[89]? = some (.pointer (some ⟨q, ck.toNat, none⟩)) := by rw [ha]; exact putSel_on (e := (23, 89, .pointer (some ⟨q, ck.toNat, none⟩))) 23 rfl rfl (hon 23 (by kernel_rfl)) rfl
        have e88 : a.tmps[88]? = some (v52_) := by rw [ha]; exact putSel_on (e := (22, 88, v52_)) 22 rfl rfl (hon 22 (by kernel_rfl)) rfl
        replace ha := Aside0.mk ha
        have HBW := Aside0.mk Q_HBW
        have SZ := Aside0.mk Q_SZ
        have BX := Aside0.mk Q_BX
        have OT := Aside0.mk Q_OT
        have LE := Aside0.mk (Q_LE hb_)
        have R52 := Aside0.mk (Q_R52 (hon 22 (by kernel_rfl)) hb_)
        obtain ⟨b52_, y52_, rfl⟩ := Kd.R_slice R52.out
        obtain ⟨⟨cells_, hcl_⟩, c0⟩ := LE.out.typed hk0 hk1
        have f0 := blk_frozen hcl_ ck.toNat
        clear hcl_
        have hq_ := HQB.out.2
        have hwa_ := HWA.out
        obtain ⟨⟨hl1, hl2, hl3⟩, ⟨hh1, hh2, hh3⟩, o12, o13, o23⟩ := HLO.out; obtain ⟨n12, n13, n23⟩ := HGG.out; obtain ⟨hg1, hg2, hg3⟩ := HNG.out
        refine skip_ (w1 := w'.setCell ⟨q, ck.toNat, none⟩ (.slice b52_ (xs ++ [(⟨⟨a3.f0, a3.f1, a3.f2, a3.f3, 0, a3.f5⟩, cf, cf + dm⟩ : S61)]).length y52_)) (by rfl) rfl (by go_simp) ?_
        refine hK.out _ _ ⟨(.slice b52_ (xs ++ [(⟨⟨a3.f0, a3.f1, a3.f2, a3.f3, 0, a3.f5⟩, cf, cf + dm⟩ : S61)]).length y52_), q51_, wp_, m21_, (by rw [ha.out]; exact putSel_none (v := undef) rfl), below_set HBW.out HQB.out.1, Nat.le_trans SZ.out (Nat.le_of_eq (setCell_size _ _ _).symm), ⟨blk_far (p := ⟨q, ck.toNat, none⟩) BX.out.1 HN.out.1 _, blk_far (p := ⟨q, ck.toNat, none⟩) BX.out.2.1 HN.out.2.1 _, blk_far (p := ⟨q, ck.toNat, none⟩) BX.out.2.2 HN.out.2.2.1 _⟩, ⟨OT.out.1.far (p := ⟨q, ck.toNat, none⟩) HN.out.2.2.2.1 (fun k hk => show k ≠ q from by omega) _, OT.out.2.far (p := ⟨q, ck.toNat, none⟩) HN.out.2.2.2.2 (fun k hk => show k ≠ q from by omega) _⟩, fun h0_ => absurd ((up_self b 24).symm.trans h0_) (by decide), fun h0_ => absurd ((hon 21 (by kernel_rfl)).symm.trans h0_) (by decide), fun _ h1_ => absurd ((hon 22 (by kernel_rfl)).symm.trans h1_) (by decide), fun _ h1_ => absurd ((up_self b 24).symm.trans h1_) (by decide), fun _ => LE.out.back R52.out HA2.out hk0 hk1, Q_X21_⟩
      exact steps_nil
    · rintro b a w' hall ⟨v52_, q51_, wp_, m21_, ha, Q_HBW, Q_SZ, Q_BX, Q_OT, Q_LE, Q_R44, Q_PH2, Q_R52, Q_END, Q_X21_⟩
      clear BX HBW LE OT R44 SZ
      have hb0_ := hall 0 (by kernel_rfl)
      have hb1_ := hall 1 (by kernel_rfl)
      have hb2_ := hall 2 (by kernel_rfl)
      have hb3_ := hall 3 (by kernel_rfl)
      have hb4_ := hall 4 (by kernel_rfl)
      have hb5_ := hall 5 (by kernel_rfl)
      have hb6_ := hall 6 (by kernel_rfl)
      have hb7_ := hall 7 (by kernel_rfl)
      have hb8_ := hall 8 (by kernel_rfl)
      have hb9_ := hall 9 (by kernel_rfl)
      have hb10_ := hall 10 (by kernel_rfl)
      have hb11_ := hall 11 (by kernel_rfl)
      have hb12_ := hall 12 (by kernel_rfl)
      have hb13_ := hall 13 (by kernel_rfl)
      have hb14_ := hall 14 (by kernel_rfl)
      have hb15_ := hall 15 (by kernel_rfl)
      have hb16_ := hall 16 (by kernel_rfl)
      have hb17_ := hall 17 (by kernel_rfl)
      have hb18_ := hall 18 (by kernel_rfl)
      have hb19_ := hall 19 (by kernel_rfl)
      have hb20_ := hall 20 (by kernel_rfl)
      have hb21_ := hall 21 (by kernel_rfl)
      have hb22_ := hall 22 (by kernel_rfl)
      have hb23_ := hall 23 (by kernel_rfl)
      have hb24_ := hall 24 (by kernel_rfl)
      subst ha
      obtain rfl := Q_X21_ hb21_
      simp only [putSel, hb0_, hb1_, hb2_, hb3_, hb4_, hb5_, hb6_, hb7_, hb8_, hb9_, hb10_, hb11_, hb12_, hb13_, hb14_, hb15_, hb16_, hb17_, hb18_, hb19_, hb20_, hb21_, hb22_, hb23_, hb24_, if_true, Act.put, List.setIfInBounds_toArray, List.set_cons_zero, List.set_cons_succ]
      have HBW := Aside0.mk Q_HBW
      clear Q_HBW
      have SZ := Aside0.mk Q_SZ
      clear Q_SZ
      have BX := Aside0.mk Q_BX
      clear Q_BX
      have OT := Aside0.mk Q_OT
      clear Q_OT
      clear Q_LE
      clear Q_R44
      clear Q_PH2
      clear Q_R52
      have END := Aside0.mk (Q_END hb24_)
      clear Q_END
      clear hall hb0_ hb1_ hb2_ hb3_ hb4_ hb5_ hb6_ hb7_ hb8_ hb9_ hb10_ hb11_ hb12_ hb13_ hb14_ hb15_ hb16_ hb17_ hb18_ hb19_ hb20_ hb21_ hb22_ hb23_ hb24_
      have HB := HBW
      have HBX := Aside0.mk BX.out.1
      have HBV := Aside0.mk BX.out.2.1
      have CQ1 := Aside0.mk OT.out.1
      have CQ3 := Aside0.mk OT.out.2
      obtain ⟨Y2, hY2⟩ : ∃ Y2 : Rv, Y2 = { X2 with ca := X2.ca.set ck.toNat (xs ++ [(⟨⟨a3.f0, a3.f1, a3.f2, a3.f3, 0, a3.f5⟩, cf, cf + dm⟩ : S61)]) } := ⟨_, rfl⟩
      have HY2 := Aside0.mk (show Y2.st = a0.st ∧ Y2.ri = a0.ri ∧ Y2.ca = a0.ca.set ck.toNat (rd_L3 a0.ca ck ++ [(⟨⟨a3.f0, a3.f1, a3.f2, a3.f3, 0, a3.f5⟩, cf, cf + dm⟩ : S61)]) ∧ Y2.su = a0.su from by rw [hY2, ← HE2.out.2.2.1, HXS.out]; exact ⟨HE2.out.1, HE2.out.2.1, rfl, HE2.out.2.2.2⟩)
      have CQ2 := Aside0.mk (show Cq Y2 g2 (fun k => (lo2 ≤ k ∧ k < hi2) ∨ wc.heap.size ≤ k) w.heap.size w' from by rw [← hY2] at END; refine ⟨?_, END.out⟩; rw [hY2]; simp only [List.length_set, HA2.out]; exact BX.out.2.2)
      have HXL : Aside0 ((rd_L3 a0.ca ck).length ≤ 64) := ⟨by rw [← HE2.out.2.2.1, HXS.out]; exact hxl⟩
      clear hY2 END BX OT HBW SZ HVB HN HA2 HXX HQB HRR HLT HW2
      have hk3 : ck < X3.ca.length := by rw [HE3.out.2.2.1]; exact HK.out.2
      obtain ⟨q3, v3, okw3, hA3, hqb3, hqo3, hql3, hw13, hw23, hR3, hLt3⟩ := CQ3.out.own.lend hk0 hk3
      obtain ⟨⟨cl3, hcl3⟩, c0⟩ := hLt3.typed hk0 hk3
      have f0 := blk_frozen hcl3 ck.toNat
      have HN := Aside0.mk (show w.heap.size ≠ q3 ∧ g2 ≠ q3 ∧ g1 ≠ q3 ∧ g3 ≠ q3 from ⟨blk_ne HBX.out hcl3 (by decide), blk_ne CQ2.out.box hcl3 (by decide), blk_ne CQ1.out.box hcl3 (by decide), blk_ne CQ3.out.box hcl3 (by decide)⟩)
      have HZB := Aside0.mk (show w'.heap[g3]? = some (.cells #[.slice X3.A0 X3.st.length X3.c0, .slice X3.A1 X3.ri.length X3.c1, .slice (some ⟨q3, 0, none⟩) X3.ca.length X3.c2, .slice X3.A3 X3.su.length X3.c3] 27 (0, 0)) from by rw [← hA3]; exact CQ3.out.box)
      have HQ3 := Aside0.mk (And.intro hqb3 (And.intro hqo3 hql3))
      have HA3 := Aside0.mk hA3
      have HLT := Aside0.mk hLt3
      clear hA3 hqb3 hqo3 hql3 hw13 hw23 hR3 hLt3 hcl3 CQ3
      have d0 := (blk_cell HBX.out 0).trans rfl
      have d1 := (blk_cell HBX.out 1).trans rfl
      have d2 := (blk_cell HBX.out 2).trans rfl
      have d3 := (blk_cell HBX.out 3).trans rfl
      have z0_ := (blk_cell HZB.out 0).trans rfl
      have z1_ := (blk_cell HZB.out 1).trans rfl
      have z2_ := (blk_cell HZB.out 2).trans rfl
      have z3_ := (blk_cell HZB.out 3).trans rfl
      go_upto_region 11 with (first | ((with_reducible refine gate_st (p := 93) rfl ?_); refine put_ev (p := 93) (w1 := w'.setCell ⟨q3, ck.toNat, none⟩ (.slice none 0 0)) (fun x_ => Below w.heap.size w x_ ∧ x_.heap[w.heap.size]? = some (.cells #[.slice a0.A0 a0.st.length a0.c0, .slice a0.A1 a0.ri.length a0.c1, .slice a0.A2 a0.ca.length a0.c2, .slice a0.A3 a0.su.length a0.c3] 27 (0, 0)) ∧ Cq Y1 g1 (fun k => (lo1 ≤ k ∧ k < hi1) ∨ wa.heap.size ≤ k) w.heap.size x_ ∧ Cq Y2 g2 (fun k => (lo2 ≤ k ∧ k < hi2) ∨ wc.heap.size ≤ k) w.heap.size x_ ∧ x_.heap[g3]? = some (.cells #[.slice X3.A0 X3.st.length X3.c0, .slice X3.A1 X3.ri.length X3.c1, .slice (some ⟨q3, 0, none⟩) X3.ca.length X3.c2, .slice X3.A3 X3.su.length X3.c3] 27 (0, 0)) ∧ Ow { X3 with ca := X3.ca.set ck.toNat [] } (fun k => (lo3 ≤ k ∧ k < hi3) ∨ w'.heap.size ≤ k) w.heap.size x_) rfl rfl rfl ?hr ?hF ?_; (case hr => first | (go_simp; done) | (go_simp; rfl)); (case hF => obtain ⟨⟨hl1, hl2, hl3⟩, ⟨hh1, hh2, hh3⟩, o12, o13, o23⟩ := HLO.out; obtain ⟨n12, n13, n23⟩ := HGG.out; obtain ⟨hg1, hg2, hg3⟩ := HNG.out; have hwa_ := HWA.out; have hwc_ := HWC.out; have hq3_ := HQ3.out.2.1; exact ⟨below_set HB.out HQ3.out.1, blk_far (p := ⟨q3, ck.toNat, none⟩) HBX.out HN.out.1 _, CQ1.out.far (p := ⟨q3, ck.toNat, none⟩) HN.out.2.2.1 (fun k hk => show k ≠ q3 from by omega) _, CQ2.out.far (p := ⟨q3, ck.toNat, none⟩) HN.out.2.1 (fun k hk => show k ≠ q3 from by omega) _, blk_far (p := ⟨q3, ck.toNat, none⟩) HZB.out HN.out.2.2.2 _, HLT.out.back (Kd.R_nil _ _ _ _ _) HA3.out hk0 hk3⟩); clear c0 f0 HB HBX HBV CQ1 CQ2 HZB HLT d0 d1 d2 d3 z0_ z1_ z2_ z3_; rintro wz ⟨k0_, k1_, k2_, k3_, k4_, k5_⟩; have HB := Aside0.mk k0_; have HBX := Aside0.mk k1_; have CQ1 := Aside0.mk k2_; have CQ2 := Aside0.mk k3_; have HZB := Aside0.mk k4_; have HZO := Aside0.mk k5_; clear k0_ k1_ k2_ k3_ k4_ k5_))
      obtain ⟨Z, hZ⟩ : ∃ Z : Rv, Z = { X3 with ca := X3.ca.set ck.toNat [] } := ⟨_, rfl⟩
      have HZE := Aside0.mk (show Z.st = a0.st ∧ Z.ri = a0.ri ∧ Z.ca = a0.ca.set ck.toNat [] ∧ Z.su = a0.su from by rw [hZ]; exact ⟨HE3.out.1, HE3.out.2.1, by rw [← HE3.out.2.2.1], HE3.out.2.2.2⟩)
      rw [← hZ] at HZO
      have HB3 := Aside0.mk (show wz.heap[g3]? = some (.cells #[.slice Z.A0 Z.st.length Z.c0, .slice Z.A1 Z.ri.length Z.c1, .slice Z.A2 Z.ca.length Z.c2, .slice Z.A3 Z.su.length Z.c3] 27 (0, 0)) from by rw [hZ]; simp only [List.length_set, HA3.out]; exact HZB.out)
      have HI3 := Aside0.mk HZO.out.inn
      have HB1 := Aside0.mk CQ1.out.box
      have HI1 := Aside0.mk CQ1.out.own.inn
      have HB2 := Aside0.mk CQ2.out.box
      have HI2 := Aside0.mk CQ2.out.own.inn
      clear hZ HZO HZB CQ1 CQ2 HN HQ3 HA3 HLO HGG HNG HWA HWB HWC HDM HWR hd0 s0 s1
      have HF1 := Aside0.mk (few_ri HF.out HY1.out.1 (by rw [HY1.out.2.1, List.length_append, List.length_singleton]; omega) HY1.out.2.2.1 HY1.out.2.2.2)
      have HF2 := Aside0.mk (few_set (R := a0) (Y := Y2) (k := ck) HF.out HY2.out.1 (by rw [HY2.out.2.1]; omega) HY2.out.2.2.2 HY2.out.2.2.1 (by rw [List.length_append, List.length_singleton]; have := HXL.out; omega))
      have HF3 := Aside0.mk (few_set (R := a0) (Y := Z) (k := ck) HF.out HZE.out.1 (by rw [HZE.out.2.1]; omega) HZE.out.2.2.2 HZE.out.2.2.1 (Nat.zero_le _))
      obtain ⟨hs, fr, hl0, hl1, hl2, hl3, hl4, hl5⟩ := more_law (R := a0) (X := Y1) (Y := Y2) (Z := Z) (a := pa) (b := pb) (k := ck) HC.out (at_pair HP.out.1 HP.out.2.1 HK.out ⟨Int.le_refl 0, by omega⟩) HP.out.2.2 HY1.out.1 HY1.out.2.1 HY1.out.2.2.1 HY1.out.2.2.2 HY2.out.1 HY2.out.2.1 HY2.out.2.2.1 HY2.out.2.2.2 HZE.out.1 HZE.out.2.1 HZE.out.2.2.1 HZE.out.2.2.2
      have HL0 := Aside0.mk hl0
      have HL1 := Aside0.mk hl1
      have HL2 := Aside0.mk hl2
      have HL3 := Aside0.mk hl3
      have HL4 := Aside0.mk hl4
      have HL5 := Aside0.mk hl5
      clear hl0 hl1 hl2 hl3 hl4 hl5 hk3 hk1 hk0 hxl hrl HY1 HY2 HZE HE1 HE2 HE3
      have d0 := (blk_cell HBX.out 0).trans rfl
      have d1 := (blk_cell HBX.out 1).trans rfl
      have d2 := (blk_cell HBX.out 2).trans rfl
      have d3 := (blk_cell HBX.out 3).trans rfl
      have x0_ := (blk_cell HB1.out 0).trans rfl
      have x1_ := (blk_cell HB1.out 1).trans rfl
      have x2_ := (blk_cell HB1.out 2).trans rfl
      have x3_ := (blk_cell HB1.out 3).trans rfl
      have y0_ := (blk_cell HB2.out 0).trans rfl
      have y1_ := (blk_cell HB2.out 1).trans rfl
      have y2_ := (blk_cell HB2.out 2).trans rfl
      have y3_ := (blk_cell HB2.out 3).trans rfl
      have z0_ := (blk_cell HB3.out 0).trans rfl
      have z1_ := (blk_cell HB3.out 1).trans rfl
      have z2_ := (blk_cell HB3.out 2).trans rfl
      have z3_ := (blk_cell HB3.out 3).trans rfl
      go_wp2_with fail
      refine (lland_c a0 _ (HI.out.below HB.out) HF.out).mono ?_
      rintro e w5_ ⟨L, rfl, hO, hL, hb_⟩
      replace HB := Aside0.mk (bt HB.out hb_)
      replace HBX := Aside0.mk (blk_below HBX.out hb_)
      replace HI1 := Aside0.mk (HI1.out.below hb_)
      replace HI2 := Aside0.mk (HI2.out.below hb_)
      replace HI3 := Aside0.mk (HI3.out.below hb_)
      replace HB1 := Aside0.mk (blk_below HB1.out hb_)
      replace HB2 := Aside0.mk (blk_below HB2.out hb_)
      replace HB3 := Aside0.mk (blk_below HB3.out hb_)
      clear x0_ x1_ x2_ x3_
      clear y0_ y1_ y2_ y3_
      clear z0_ z1_ z2_ z3_
      clear d0 d1 d2 d3
      clear hb_
      have d0 := (blk_cell HBX.out 0).trans rfl
      have d1 := (blk_cell HBX.out 1).trans rfl
      have d2 := (blk_cell HBX.out 2).trans rfl
      have d3 := (blk_cell HBX.out 3).trans rfl
      have x0_ := (blk_cell HB1.out 0).trans rfl
      have x1_ := (blk_cell HB1.out 1).trans rfl
      have x2_ := (blk_cell HB1.out 2).trans rfl
      have x3_ := (blk_cell HB1.out 3).trans rfl
      have y0_ := (blk_cell HB2.out 0).trans rfl
      have y1_ := (blk_cell HB2.out 1).trans rfl
      have y2_ := (blk_cell HB2.out 2).trans rfl
      have y3_ := (blk_cell HB2.out 3).trans rfl
      have z0_ := (blk_cell HB3.out 0).trans rfl
      have z1_ := (blk_cell HB3.out 1).trans rfl
      have z2_ := (blk_cell HB3.out 2).trans rfl
      have z3_ := (blk_cell HB3.out 3).trans rfl
      have HO := Aside0.mk hO
      have HL := Aside0.mk hL
      clear hO hL
      go_wp2_with fail
      refine (of_hours HO.out HL.out pa pb ck).mono ?_
      rintro e w6_ ⟨Aah, cah, rfl, hY, hb_⟩
      replace HB := Aside0.mk (bt HB.out hb_)
      replace HBX := Aside0.mk (blk_below HBX.out hb_)
      replace HI1 := Aside0.mk (HI1.out.below hb_)
      replace HI2 := Aside0.mk (HI2.out.below hb_)
      replace HI3 := Aside0.mk (HI3.out.below hb_)
      replace HB1 := Aside0.mk (blk_below HB1.out hb_)
      replace HB2 := Aside0.mk (blk_below HB2.out hb_)
      replace HB3 := Aside0.mk (blk_below HB3.out hb_)
      clear x0_ x1_ x2_ x3_
      clear y0_ y1_ y2_ y3_
      clear z0_ z1_ z2_ z3_
      clear d0 d1 d2 d3
      clear hb_
      have d0 := (blk_cell HBX.out 0).trans rfl
      have d1 := (blk_cell HBX.out 1).trans rfl
      have d2 := (blk_cell HBX.out 2).trans rfl
      have d3 := (blk_cell HBX.out 3).trans rfl
      have x0_ := (blk_cell HB1.out 0).trans rfl
      have x1_ := (blk_cell HB1.out 1).trans rfl
      have x2_ := (blk_cell HB1.out 2).trans rfl
      have x3_ := (blk_cell HB1.out 3).trans rfl
      have y0_ := (blk_cell HB2.out 0).trans rfl
      have y1_ := (blk_cell HB2.out 1).trans rfl
      have y2_ := (blk_cell HB2.out 2).trans rfl
      have y3_ := (blk_cell HB2.out 3).trans rfl
      have z0_ := (blk_cell HB3.out 0).trans rfl
      have z1_ := (blk_cell HB3.out 1).trans rfl
      have z2_ := (blk_cell HB3.out 2).trans rfl
      have z3_ := (blk_cell HB3.out 3).trans rfl
      rw [HL0.out] at hY
      rw [HL0.out]
      have HYh := Aside0.mk hY
      clear hY HO HL
      have lyh := HYh.out.2.1
      go_wp2_with fail
      refine (lland_c Z _ HI3.out HF3.out).mono ?_
      rintro e w7_ ⟨L, rfl, hO, hL, hb_⟩
      replace HB := Aside0.mk (bt HB.out hb_)
      replace HBX := Aside0.mk (blk_below HBX.out hb_)
      replace HYh := Aside0.mk (Kd.C_below HYh.out hb_)
      replace HI1 := Aside0.mk (HI1.out.below hb_)
      replace HI2 := Aside0.mk (HI2.out.below hb_)
      replace HI3 := Aside0.mk (HI3.out.below hb_)
      replace HB1 := Aside0.mk (blk_below HB1.out hb_)
      replace HB2 := Aside0.mk (blk_below HB2.out hb_)
      replace HB3 := Aside0.mk (blk_below HB3.out hb_)
      clear x0_ x1_ x2_ x3_
      clear y0_ y1_ y2_ y3_
      clear z0_ z1_ z2_ z3_
      clear d0 d1 d2 d3
      clear hb_
      have d0 := (blk_cell HBX.out 0).trans rfl
      have d1 := (blk_cell HBX.out 1).trans rfl
      have d2 := (blk_cell HBX.out 2).trans rfl
      have d3 := (blk_cell HBX.out 3).trans rfl
      have x0_ := (blk_cell HB1.out 0).trans rfl
      have x1_ := (blk_cell HB1.out 1).trans rfl
      have x2_ := (blk_cell HB1.out 2).trans rfl
      have x3_ := (blk_cell HB1.out 3).trans rfl
      have y0_ := (blk_cell HB2.out 0).trans rfl
      have y1_ := (blk_cell HB2.out 1).trans rfl
      have y2_ := (blk_cell HB2.out 2).trans rfl
      have y3_ := (blk_cell HB2.out 3).trans rfl
      have z0_ := (blk_cell HB3.out 0).trans rfl
      have z1_ := (blk_cell HB3.out 1).trans rfl
      have z2_ := (blk_cell HB3.out 2).trans rfl
      have z3_ := (blk_cell HB3.out 3).trans rfl
      have HO := Aside0.mk hO
      have HL := Aside0.mk hL
      clear hO hL
      go_wp2_with fail
      refine (of_hours HO.out HL.out pa pb ck).mono ?_
      rintro e w8_ ⟨Aaf, caf, rfl, hY, hb_⟩
      replace HB := Aside0.mk (bt HB.out hb_)
      replace HBX := Aside0.mk (blk_below HBX.out hb_)
      replace HYh := Aside0.mk (Kd.C_below HYh.out hb_)
      replace HI1 := Aside0.mk (HI1.out.below hb_)
      replace HI2 := Aside0.mk (HI2.out.below hb_)
      replace HI3 := Aside0.mk (HI3.out.below hb_)
      replace HB1 := Aside0.mk (blk_below HB1.out hb_)
      replace HB2 := Aside0.mk (blk_below HB2.out hb_)
      replace HB3 := Aside0.mk (blk_below HB3.out hb_)
      clear x0_ x1_ x2_ x3_
      clear y0_ y1_ y2_ y3_
      clear z0_ z1_ z2_ z3_
      clear d0 d1 d2 d3
      clear hb_
      have d0 := (blk_cell HBX.out 0).trans rfl
      have d1 := (blk_cell HBX.out 1).trans rfl
      have d2 := (blk_cell HBX.out 2).trans rfl
      have d3 := (blk_cell HBX.out 3).trans rfl
      have x0_ := (blk_cell HB1.out 0).trans rfl
      have x1_ := (blk_cell HB1.out 1).trans rfl
      have x2_ := (blk_cell HB1.out 2).trans rfl
      have x3_ := (blk_cell HB1.out 3).trans rfl
      have y0_ := (blk_cell HB2.out 0).trans rfl
      have y1_ := (blk_cell HB2.out 1).trans rfl
      have y2_ := (blk_cell HB2.out 2).trans rfl
      have y3_ := (blk_cell HB2.out 3).trans rfl
      have z0_ := (blk_cell HB3.out 0).trans rfl
      have z1_ := (blk_cell HB3.out 1).trans rfl
      have z2_ := (blk_cell HB3.out 2).trans rfl
      have z3_ := (blk_cell HB3.out 3).trans rfl
      rw [HL1.out] at hY
      rw [HL1.out]
      have HYf := Aside0.mk hY
      clear hY HO HL
      have lyf := HYf.out.2.1
      go_wp2_with fail
      refine (within_l Aah Aaf cah caf hs fr _ HYh.out HYf.out).mono ?_
      rintro e w9_ ⟨rfl, hb_⟩
      replace HB := Aside0.mk (bt HB.out hb_)
      replace HBX := Aside0.mk (blk_below HBX.out hb_)
      replace HYh := Aside0.mk (Kd.C_below HYh.out hb_)
      replace HYf := Aside0.mk (Kd.C_below HYf.out hb_)
      replace HI1 := Aside0.mk (HI1.out.below hb_)
      replace HI2 := Aside0.mk (HI2.out.below hb_)
      replace HI3 := Aside0.mk (HI3.out.below hb_)
      replace HB1 := Aside0.mk (blk_below HB1.out hb_)
      replace HB2 := Aside0.mk (blk_below HB2.out hb_)
      replace HB3 := Aside0.mk (blk_below HB3.out hb_)
      clear x0_ x1_ x2_ x3_
      clear y0_ y1_ y2_ y3_
      clear z0_ z1_ z2_ z3_
      clear d0 d1 d2 d3
      clear hb_
      rw [HL2.out]
      have d0 := (blk_cell HBX.out 0).trans rfl
      have d1 := (blk_cell HBX.out 1).trans rfl
      have d2 := (blk_cell HBX.out 2).trans rfl
      have d3 := (blk_cell HBX.out 3).trans rfl
      have x0_ := (blk_cell HB1.out 0).trans rfl
      have x1_ := (blk_cell HB1.out 1).trans rfl
      have x2_ := (blk_cell HB1.out 2).trans rfl
      have x3_ := (blk_cell HB1.out 3).trans rfl
      have y0_ := (blk_cell HB2.out 0).trans rfl
      have y1_ := (blk_cell HB2.out 1).trans rfl
      have y2_ := (blk_cell HB2.out 2).trans rfl
      have y3_ := (blk_cell HB2.out 3).trans rfl
      have z0_ := (blk_cell HB3.out 0).trans rfl
      have z1_ := (blk_cell HB3.out 1).trans rfl
      have z2_ := (blk_cell HB3.out 2).trans rfl
      have z3_ := (blk_cell HB3.out 3).trans rfl
      go_wp2_with fail
      clear x0_ x1_ x2_ x3_
      clear y0_ y1_ y2_ y3_
      clear z0_ z1_ z2_ z3_
      clear d0 d1 d2 d3
      go_loopg [24] a0.ca.length (fun gg s24 wr => ∃ c : Int, s24 = .int .i64 c ∧ 0 ≤ c ∧ c ≤ (a0.ca.length : Int) ∧ (a0.ca.length : Int) - c ≤ (gg : Int) ∧ Aside0 (Below w9_.heap.size w9_ wr))
      case atStart => exact ⟨0, rfl, by omega, by omega, by omega, ⟨Below.refl _ _⟩⟩
      case round =>
        obtain ⟨c, rfl, c0, c1, hgc, BL⟩ := hrel
        obtain ⟨W2, rfl⟩ : ∃ W2 : World, W2 = wr := ⟨_, rfl⟩
        replace HB := Aside0.mk (bt HB.out BL.out)
        replace HBX := Aside0.mk (blk_below HBX.out BL.out)
        replace HYh := Aside0.mk (Kd.C_below HYh.out BL.out)
        replace HYf := Aside0.mk (Kd.C_below HYf.out BL.out)
        replace HI1 := Aside0.mk (HI1.out.below BL.out)
        replace HI2 := Aside0.mk (HI2.out.below BL.out)
        replace HI3 := Aside0.mk (HI3.out.below BL.out)
        replace HB1 := Aside0.mk (blk_below HB1.out BL.out)
        replace HB2 := Aside0.mk (blk_below HB2.out BL.out)
        replace HB3 := Aside0.mk (blk_below HB3.out BL.out)
        have d0 := (blk_cell HBX.out 0).trans rfl
        have d1 := (blk_cell HBX.out 1).trans rfl
        have d2 := (blk_cell HBX.out 2).trans rfl
        have d3 := (blk_cell HBX.out 3).trans rfl
        have x0_ := (blk_cell HB1.out 0).trans rfl
        have x1_ := (blk_cell HB1.out 1).trans rfl
        have x2_ := (blk_cell HB1.out 2).trans rfl
        have x3_ := (blk_cell HB1.out 3).trans rfl
        have y0_ := (blk_cell HB2.out 0).trans rfl
        have y1_ := (blk_cell HB2.out 1).trans rfl
        have y2_ := (blk_cell HB2.out 2).trans rfl
        have y3_ := (blk_cell HB2.out 3).trans rfl
        have z0_ := (blk_cell HB3.out 0).trans rfl
        have z1_ := (blk_cell HB3.out 1).trans rfl
        have z2_ := (blk_cell HB3.out 2).trans rfl
        have z3_ := (blk_cell HB3.out 3).trans rfl
        by_cases hct : c < (a0.ca.length : Int)
        · obtain ⟨os, ho0, ho1⟩ := HL3.out c c0 hct
          have HO0 := Aside0.mk ho0
          have HO1 := Aside0.mk ho1
          clear ho0 ho1
          go_wp2_with fail
          refine (lland_c a0 _ (HI.out.below HB.out) HF.out).mono ?_
          rintro e w10_ ⟨L, rfl, hO, hL, hb_⟩
          replace HB := Aside0.mk (bt HB.out hb_)
          replace HBX := Aside0.mk (blk_below HBX.out hb_)
          replace HYh := Aside0.mk (Kd.C_below HYh.out hb_)
          replace HYf := Aside0.mk (Kd.C_below HYf.out hb_)
          replace BL := Aside0.mk (bt BL.out hb_)
          replace HI1 := Aside0.mk (HI1.out.below hb_)
          replace HI2 := Aside0.mk (HI2.out.below hb_)
          replace HI3 := Aside0.mk (HI3.out.below hb_)
          replace HB1 := Aside0.mk (blk_below HB1.out hb_)
          replace HB2 := Aside0.mk (blk_below HB2.out hb_)
          replace HB3 := Aside0.mk (blk_below HB3.out hb_)
          clear x0_ x1_ x2_ x3_
          clear y0_ y1_ y2_ y3_
          clear z0_ z1_ z2_ z3_
          clear d0 d1 d2 d3
          clear hb_
          have d0 := (blk_cell HBX.out 0).trans rfl
          have d1 := (blk_cell HBX.out 1).trans rfl
          have d2 := (blk_cell HBX.out 2).trans rfl
          have d3 := (blk_cell HBX.out 3).trans rfl
          have x0_ := (blk_cell HB1.out 0).trans rfl
          have x1_ := (blk_cell HB1.out 1).trans rfl
          have x2_ := (blk_cell HB1.out 2).trans rfl
          have x3_ := (blk_cell HB1.out 3).trans rfl
          have y0_ := (blk_cell HB2.out 0).trans rfl
          have y1_ := (blk_cell HB2.out 1).trans rfl
          have y2_ := (blk_cell HB2.out 2).trans rfl
          have y3_ := (blk_cell HB2.out 3).trans rfl
          have z0_ := (blk_cell HB3.out 0).trans rfl
          have z1_ := (blk_cell HB3.out 1).trans rfl
          have z2_ := (blk_cell HB3.out 2).trans rfl
          have z3_ := (blk_cell HB3.out 3).trans rfl
          have HO := Aside0.mk hO
          have HL := Aside0.mk hL
          clear hO hL
          go_wp2_with fail
          refine (of_hours HO.out HL.out pa pb c).mono ?_
          rintro e w11_ ⟨Aao, cao, rfl, hY, hb_⟩
          replace HB := Aside0.mk (bt HB.out hb_)
          replace HBX := Aside0.mk (blk_below HBX.out hb_)
          replace HYh := Aside0.mk (Kd.C_below HYh.out hb_)
          replace HYf := Aside0.mk (Kd.C_below HYf.out hb_)
          replace BL := Aside0.mk (bt BL.out hb_)
          replace HI1 := Aside0.mk (HI1.out.below hb_)
          replace HI2 := Aside0.mk (HI2.out.below hb_)
          replace HI3 := Aside0.mk (HI3.out.below hb_)
          replace HB1 := Aside0.mk (blk_below HB1.out hb_)
          replace HB2 := Aside0.mk (blk_below HB2.out hb_)
          replace HB3 := Aside0.mk (blk_below HB3.out hb_)
          clear x0_ x1_ x2_ x3_
          clear y0_ y1_ y2_ y3_
          clear z0_ z1_ z2_ z3_
          clear d0 d1 d2 d3
          clear hb_
          have d0 := (blk_cell HBX.out 0).trans rfl
          have d1 := (blk_cell HBX.out 1).trans rfl
          have d2 := (blk_cell HBX.out 2).trans rfl
          have d3 := (blk_cell HBX.out 3).trans rfl
          have x0_ := (blk_cell HB1.out 0).trans rfl
          have x1_ := (blk_cell HB1.out 1).trans rfl
          have x2_ := (blk_cell HB1.out 2).trans rfl
          have x3_ := (blk_cell HB1.out 3).trans rfl
          have y0_ := (blk_cell HB2.out 0).trans rfl
          have y1_ := (blk_cell HB2.out 1).trans rfl
          have y2_ := (blk_cell HB2.out 2).trans rfl
          have y3_ := (blk_cell HB2.out 3).trans rfl
          have z0_ := (blk_cell HB3.out 0).trans rfl
          have z1_ := (blk_cell HB3.out 1).trans rfl
          have z2_ := (blk_cell HB3.out 2).trans rfl
          have z3_ := (blk_cell HB3.out 3).trans rfl
          rw [HO0.out] at hY
          rw [HO0.out]
          have HYo := Aside0.mk hY
          clear hY HO HL
          have lyo := HYo.out.2.1
          go_wp2_with fail
          refine (within_l Aao Aaf cao caf os fr _ HYo.out HYf.out).mono ?_
          rintro e w12_ ⟨rfl, hb_⟩
          replace HB := Aside0.mk (bt HB.out hb_)
          replace HBX := Aside0.mk (blk_below HBX.out hb_)
          replace HYh := Aside0.mk (Kd.C_below HYh.out hb_)
          replace HYf := Aside0.mk (Kd.C_below HYf.out hb_)
          replace HYo := Aside0.mk (Kd.C_below HYo.out hb_)
          replace BL := Aside0.mk (bt BL.out hb_)
          replace HI1 := Aside0.mk (HI1.out.below hb_)
          replace HI2 := Aside0.mk (HI2.out.below hb_)
          replace HI3 := Aside0.mk (HI3.out.below hb_)
          replace HB1 := Aside0.mk (blk_below HB1.out hb_)
          replace HB2 := Aside0.mk (blk_below HB2.out hb_)
          replace HB3 := Aside0.mk (blk_below HB3.out hb_)
          clear x0_ x1_ x2_ x3_
          clear y0_ y1_ y2_ y3_
          clear z0_ z1_ z2_ z3_
          clear d0 d1 d2 d3
          clear hb_
          rw [HO1.out]
          have d0 := (blk_cell HBX.out 0).trans rfl
          have d1 := (blk_cell HBX.out 1).trans rfl
          have d2 := (blk_cell HBX.out 2).trans rfl
          have d3 := (blk_cell HBX.out 3).trans rfl
          have x0_ := (blk_cell HB1.out 0).trans rfl
          have x1_ := (blk_cell HB1.out 1).trans rfl
          have x2_ := (blk_cell HB1.out 2).trans rfl
          have x3_ := (blk_cell HB1.out 3).trans rfl
          have y0_ := (blk_cell HB2.out 0).trans rfl
          have y1_ := (blk_cell HB2.out 1).trans rfl
          have y2_ := (blk_cell HB2.out 2).trans rfl
          have y3_ := (blk_cell HB2.out 3).trans rfl
          have z0_ := (blk_cell HB3.out 0).trans rfl
          have z1_ := (blk_cell HB3.out 1).trans rfl
          have z2_ := (blk_cell HB3.out 2).trans rfl
          have z3_ := (blk_cell HB3.out 3).trans rfl
          go_wp2_with fail
          go_roundg (a0.ca.length - (c + 1).toNat)
          case measure => omega
          case rel => exact ⟨c + 1, by first | rfl | go_num, by omega, by omega, by omega, BL⟩
        · have e_ : c = (a0.ca.length : Int) := by omega
          subst e_
          clear BL
          go_wp2_with fail
          refine (lfault_c Y1 _ HI1.out).mono ?_
          rintro e w10_ ⟨rfl, hb_⟩
          replace HB := Aside0.mk (bt HB.out hb_)
          replace HBX := Aside0.mk (blk_below HBX.out hb_)
          replace HYh := Aside0.mk (Kd.C_below HYh.out hb_)
          replace HYf := Aside0.mk (Kd.C_below HYf.out hb_)
          replace HI1 := Aside0.mk (HI1.out.below hb_)
          replace HI2 := Aside0.mk (HI2.out.below hb_)
          replace HI3 := Aside0.mk (HI3.out.below hb_)
          replace HB1 := Aside0.mk (blk_below HB1.out hb_)
          replace HB2 := Aside0.mk (blk_below HB2.out hb_)
          replace HB3 := Aside0.mk (blk_below HB3.out hb_)
          clear x0_ x1_ x2_ x3_
          clear y0_ y1_ y2_ y3_
          clear z0_ z1_ z2_ z3_
          clear d0 d1 d2 d3
          clear hb_
          have d0 := (blk_cell HBX.out 0).trans rfl
          have d1 := (blk_cell HBX.out 1).trans rfl
          have d2 := (blk_cell HBX.out 2).trans rfl
          have d3 := (blk_cell HBX.out 3).trans rfl
          have x0_ := (blk_cell HB1.out 0).trans rfl
          have x1_ := (blk_cell HB1.out 1).trans rfl
          have x2_ := (blk_cell HB1.out 2).trans rfl
          have x3_ := (blk_cell HB1.out 3).trans rfl
          have y0_ := (blk_cell HB2.out 0).trans rfl
          have y1_ := (blk_cell HB2.out 1).trans rfl
          have y2_ := (blk_cell HB2.out 2).trans rfl
          have y3_ := (blk_cell HB2.out 3).trans rfl
          have z0_ := (blk_cell HB3.out 0).trans rfl
          have z1_ := (blk_cell HB3.out 1).trans rfl
          have z2_ := (blk_cell HB3.out 2).trans rfl
          have z3_ := (blk_cell HB3.out 3).trans rfl
          obtain ⟨ycx, hyc⟩ : ∃ yc, Y1.lv.check = yc := ⟨_, rfl⟩
          have HYCx := Aside0.mk hyc
          rw [hyc]
          clear hyc
          by_cases hzx : ycx = 0
          · subst hzx
            obtain ⟨lsx, hm0, hm1⟩ := HL4.out HYCx.out
            have HM0x := Aside0.mk hm0
            have HM1x := Aside0.mk hm1
            clear hm0 hm1
            go_wp2_with fail
            refine (lland_c Y1 _ HI1.out HF1.out).mono ?_
            rintro e w11_ ⟨L, rfl, hO, hL, hb_⟩
            replace HB := Aside0.mk (bt HB.out hb_)
            replace HBX := Aside0.mk (blk_below HBX.out hb_)
            replace HYh := Aside0.mk (Kd.C_below HYh.out hb_)
            replace HYf := Aside0.mk (Kd.C_below HYf.out hb_)
            replace HI1 := Aside0.mk (HI1.out.below hb_)
            replace HI2 := Aside0.mk (HI2.out.below hb_)
            replace HI3 := Aside0.mk (HI3.out.below hb_)
            replace HB1 := Aside0.mk (blk_below HB1.out hb_)
            replace HB2 := Aside0.mk (blk_below HB2.out hb_)
            replace HB3 := Aside0.mk (blk_below HB3.out hb_)
            clear x0_ x1_ x2_ x3_
            clear y0_ y1_ y2_ y3_
            clear z0_ z1_ z2_ z3_
            clear d0 d1 d2 d3
            clear hb_
            have d0 := (blk_cell HBX.out 0).trans rfl
            have d1 := (blk_cell HBX.out 1).trans rfl
            have d2 := (blk_cell HBX.out 2).trans rfl
            have d3 := (blk_cell HBX.out 3).trans rfl
            have x0_ := (blk_cell HB1.out 0).trans rfl
            have x1_ := (blk_cell HB1.out 1).trans rfl
            have x2_ := (blk_cell HB1.out 2).trans rfl
            have x3_ := (blk_cell HB1.out 3).trans rfl
            have y0_ := (blk_cell HB2.out 0).trans rfl
            have y1_ := (blk_cell HB2.out 1).trans rfl
            have y2_ := (blk_cell HB2.out 2).trans rfl
            have y3_ := (blk_cell HB2.out 3).trans rfl
            have z0_ := (blk_cell HB3.out 0).trans rfl
            have z1_ := (blk_cell HB3.out 1).trans rfl
            have z2_ := (blk_cell HB3.out 2).trans rfl
            have z3_ := (blk_cell HB3.out 3).trans rfl
            have HO := Aside0.mk hO
            have HL := Aside0.mk hL
            clear hO hL
            go_wp2_with fail
            refine (of_hours HO.out HL.out pa pb ck).mono ?_
            rintro e w12_ ⟨Aax, cax, rfl, hY, hb_⟩
            replace HB := Aside0.mk (bt HB.out hb_)
            replace HBX := Aside0.mk (blk_below HBX.out hb_)
            replace HYh := Aside0.mk (Kd.C_below HYh.out hb_)
            replace HYf := Aside0.mk (Kd.C_below HYf.out hb_)
            replace HI1 := Aside0.mk (HI1.out.below hb_)
            replace HI2 := Aside0.mk (HI2.out.below hb_)
            replace HI3 := Aside0.mk (HI3.out.below hb_)
            replace HB1 := Aside0.mk (blk_below HB1.out hb_)
            replace HB2 := Aside0.mk (blk_below HB2.out hb_)
            replace HB3 := Aside0.mk (blk_below HB3.out hb_)
            clear x0_ x1_ x2_ x3_
            clear y0_ y1_ y2_ y3_
            clear z0_ z1_ z2_ z3_
            clear d0 d1 d2 d3
            clear hb_
            have d0 := (blk_cell HBX.out 0).trans rfl
            have d1 := (blk_cell HBX.out 1).trans rfl
            have d2 := (blk_cell HBX.out 2).trans rfl
            have d3 := (blk_cell HBX.out 3).trans rfl
            have x0_ := (blk_cell HB1.out 0).trans rfl
            have x1_ := (blk_cell HB1.out 1).trans rfl
            have x2_ := (blk_cell HB1.out 2).trans rfl
            have x3_ := (blk_cell HB1.out 3).trans rfl
            have y0_ := (blk_cell HB2.out 0).trans rfl
            have y1_ := (blk_cell HB2.out 1).trans rfl
            have y2_ := (blk_cell HB2.out 2).trans rfl
            have y3_ := (blk_cell HB2.out 3).trans rfl
            have z0_ := (blk_cell HB3.out 0).trans rfl
            have z1_ := (blk_cell HB3.out 1).trans rfl
            have z2_ := (blk_cell HB3.out 2).trans rfl
            have z3_ := (blk_cell HB3.out 3).trans rfl
            rw [HM0x.out] at hY
            rw [HM0x.out]
            have HYx := Aside0.mk hY
            clear hY HO HL
            have lyx := HYx.out.2.1
            go_wp2_with fail
            refine (within_l Aax Aah cax cah lsx hs _ HYx.out HYh.out).mono ?_
            rintro e w13_ ⟨rfl, hb_⟩
            replace HB := Aside0.mk (bt HB.out hb_)
            replace HBX := Aside0.mk (blk_below HBX.out hb_)
            replace HYh := Aside0.mk (Kd.C_below HYh.out hb_)
            replace HYf := Aside0.mk (Kd.C_below HYf.out hb_)
            replace HYx := Aside0.mk (Kd.C_below HYx.out hb_)
            replace HI1 := Aside0.mk (HI1.out.below hb_)
            replace HI2 := Aside0.mk (HI2.out.below hb_)
            replace HI3 := Aside0.mk (HI3.out.below hb_)
            replace HB1 := Aside0.mk (blk_below HB1.out hb_)
            replace HB2 := Aside0.mk (blk_below HB2.out hb_)
            replace HB3 := Aside0.mk (blk_below HB3.out hb_)
            clear x0_ x1_ x2_ x3_
            clear y0_ y1_ y2_ y3_
            clear z0_ z1_ z2_ z3_
            clear d0 d1 d2 d3
            clear hb_
            rw [HM1x.out]
            have d0 := (blk_cell HBX.out 0).trans rfl
            have d1 := (blk_cell HBX.out 1).trans rfl
            have d2 := (blk_cell HBX.out 2).trans rfl
            have d3 := (blk_cell HBX.out 3).trans rfl
            have x0_ := (blk_cell HB1.out 0).trans rfl
            have x1_ := (blk_cell HB1.out 1).trans rfl
            have x2_ := (blk_cell HB1.out 2).trans rfl
            have x3_ := (blk_cell HB1.out 3).trans rfl
            have y0_ := (blk_cell HB2.out 0).trans rfl
            have y1_ := (blk_cell HB2.out 1).trans rfl
            have y2_ := (blk_cell HB2.out 2).trans rfl
            have y3_ := (blk_cell HB2.out 3).trans rfl
            have z0_ := (blk_cell HB3.out 0).trans rfl
            have z1_ := (blk_cell HB3.out 1).trans rfl
            have z2_ := (blk_cell HB3.out 2).trans rfl
            have z3_ := (blk_cell HB3.out 3).trans rfl
            go_wp2_with fail
            refine (lfault_c Y2 _ HI2.out).mono ?_
            rintro e w14_ ⟨rfl, hb_⟩
            replace HB := Aside0.mk (bt HB.out hb_)
            replace HBX := Aside0.mk (blk_below HBX.out hb_)
            replace HYh := Aside0.mk (Kd.C_below HYh.out hb_)
            replace HYf := Aside0.mk (Kd.C_below HYf.out hb_)
            replace HYx := Aside0.mk (Kd.C_below HYx.out hb_)
            replace HI1 := Aside0.mk (HI1.out.below hb_)
            replace HI2 := Aside0.mk (HI2.out.below hb_)
            replace HI3 := Aside0.mk (HI3.out.below hb_)
            replace HB1 := Aside0.mk (blk_below HB1.out hb_)
            replace HB2 := Aside0.mk (blk_below HB2.out hb_)
            replace HB3 := Aside0.mk (blk_below HB3.out hb_)
            clear x0_ x1_ x2_ x3_
            clear y0_ y1_ y2_ y3_
            clear z0_ z1_ z2_ z3_
            clear d0 d1 d2 d3
            clear hb_
            have d0 := (blk_cell HBX.out 0).trans rfl
            have d1 := (blk_cell HBX.out 1).trans rfl
            have d2 := (blk_cell HBX.out 2).trans rfl
            have d3 := (blk_cell HBX.out 3).trans rfl
            have x0_ := (blk_cell HB1.out 0).trans rfl
            have x1_ := (blk_cell HB1.out 1).trans rfl
            have x2_ := (blk_cell HB1.out 2).trans rfl
            have x3_ := (blk_cell HB1.out 3).trans rfl
            have y0_ := (blk_cell HB2.out 0).trans rfl
            have y1_ := (blk_cell HB2.out 1).trans rfl
            have y2_ := (blk_cell HB2.out 2).trans rfl
            have y3_ := (blk_cell HB2.out 3).trans rfl
            have z0_ := (blk_cell HB3.out 0).trans rfl
            have z1_ := (blk_cell HB3.out 1).trans rfl
            have z2_ := (blk_cell HB3.out 2).trans rfl
            have z3_ := (blk_cell HB3.out 3).trans rfl
            obtain ⟨ycy, hyc⟩ : ∃ yc, Y2.lv.check = yc := ⟨_, rfl⟩
            have HYCy := Aside0.mk hyc
            rw [hyc]
            clear hyc
            by_cases hzy : ycy = 0
            · subst hzy
              obtain ⟨lsy, hm0, hm1⟩ := HL5.out HYCy.out
              have HM0y := Aside0.mk hm0
              have HM1y := Aside0.mk hm1
              clear hm0 hm1
              go_wp2_with fail
              refine (lland_c Y2 _ HI2.out HF2.out).mono ?_
              rintro e w15_ ⟨L, rfl, hO, hL, hb_⟩
              replace HB := Aside0.mk (bt HB.out hb_)
              replace HBX := Aside0.mk (blk_below HBX.out hb_)
              replace HYh := Aside0.mk (Kd.C_below HYh.out hb_)
              replace HYf := Aside0.mk (Kd.C_below HYf.out hb_)
              replace HYx := Aside0.mk (Kd.C_below HYx.out hb_)
              replace HI1 := Aside0.mk (HI1.out.below hb_)
              replace HI2 := Aside0.mk (HI2.out.below hb_)
              replace HI3 := Aside0.mk (HI3.out.below hb_)
              replace HB1 := Aside0.mk (blk_below HB1.out hb_)
              replace HB2 := Aside0.mk (blk_below HB2.out hb_)
              replace HB3 := Aside0.mk (blk_below HB3.out hb_)
              clear x0_ x1_ x2_ x3_
              clear y0_ y1_ y2_ y3_
              clear z0_ z1_ z2_ z3_
              clear d0 d1 d2 d3
              clear hb_
              have d0 := (blk_cell HBX.out 0).trans rfl
              have d1 := (blk_cell HBX.out 1).trans rfl
              have d2 := (blk_cell HBX.out 2).trans rfl
              have d3 := (blk_cell HBX.out 3).trans rfl
              have x0_ := (blk_cell HB1.out 0).trans rfl
              have x1_ := (blk_cell HB1.out 1).trans rfl
              have x2_ := (blk_cell HB1.out 2).trans rfl
              have x3_ := (blk_cell HB1.out 3).trans rfl
              have y0_ := (blk_cell HB2.out 0).trans rfl
              have y1_ := (blk_cell HB2.out 1).trans rfl
              have y2_ := (blk_cell HB2.out 2).trans rfl
              have y3_ := (blk_cell HB2.out 3).trans rfl
              have z0_ := (blk_cell HB3.out 0).trans rfl
              have z1_ := (blk_cell HB3.out 1).trans rfl
              have z2_ := (blk_cell HB3.out 2).trans rfl
              have z3_ := (blk_cell HB3.out 3).trans rfl
              have HO := Aside0.mk hO
              have HL := Aside0.mk hL
              clear hO hL
              go_wp2_with fail
              refine (of_hours HO.out HL.out pa pb ck).mono ?_
              rintro e w16_ ⟨Aay, cay, rfl, hY, hb_⟩
              replace HB := Aside0.mk (bt HB.out hb_)
              replace HBX := Aside0.mk (blk_below HBX.out hb_)
              replace HYh := Aside0.mk (Kd.C_below HYh.out hb_)
              replace HYf := Aside0.mk (Kd.C_below HYf.out hb_)
              replace HYx := Aside0.mk (Kd.C_below HYx.out hb_)
              replace HI1 := Aside0.mk (HI1.out.below hb_)
              replace HI2 := Aside0.mk (HI2.out.below hb_)
              replace HI3 := Aside0.mk (HI3.out.below hb_)
              replace HB1 := Aside0.mk (blk_below HB1.out hb_)
              replace HB2 := Aside0.mk (blk_below HB2.out hb_)
              replace HB3 := Aside0.mk (blk_below HB3.out hb_)
              clear x0_ x1_ x2_ x3_
              clear y0_ y1_ y2_ y3_
              clear z0_ z1_ z2_ z3_
              clear d0 d1 d2 d3
              clear hb_
              have d0 := (blk_cell HBX.out 0).trans rfl
              have d1 := (blk_cell HBX.out 1).trans rfl
              have d2 := (blk_cell HBX.out 2).trans rfl
              have d3 := (blk_cell HBX.out 3).trans rfl
              have x0_ := (blk_cell HB1.out 0).trans rfl
              have x1_ := (blk_cell HB1.out 1).trans rfl
              have x2_ := (blk_cell HB1.out 2).trans rfl
              have x3_ := (blk_cell HB1.out 3).trans rfl
              have y0_ := (blk_cell HB2.out 0).trans rfl
              have y1_ := (blk_cell HB2.out 1).trans rfl
              have y2_ := (blk_cell HB2.out 2).trans rfl
              have y3_ := (blk_cell HB2.out 3).trans rfl
              have z0_ := (blk_cell HB3.out 0).trans rfl
              have z1_ := (blk_cell HB3.out 1).trans rfl
              have z2_ := (blk_cell HB3.out 2).trans rfl
              have z3_ := (blk_cell HB3.out 3).trans rfl
              rw [HM0y.out] at hY
              rw [HM0y.out]
              have HYy := Aside0.mk hY
              clear hY HO HL
              have lyy := HYy.out.2.1
              go_wp2_with fail
              refine (within_l Aay Aah cay cah lsy hs _ HYy.out HYh.out).mono ?_
              rintro e w17_ ⟨rfl, hb_⟩
              replace HB := Aside0.mk (bt HB.out hb_)
              replace HBX := Aside0.mk (blk_below HBX.out hb_)
              replace HYh := Aside0.mk (Kd.C_below HYh.out hb_)
              replace HYf := Aside0.mk (Kd.C_below HYf.out hb_)
              replace HYx := Aside0.mk (Kd.C_below HYx.out hb_)
              replace HYy := Aside0.mk (Kd.C_below HYy.out hb_)
              replace HI1 := Aside0.mk (HI1.out.below hb_)
              replace HI2 := Aside0.mk (HI2.out.below hb_)
              replace HI3 := Aside0.mk (HI3.out.below hb_)
              replace HB1 := Aside0.mk (blk_below HB1.out hb_)
              replace HB2 := Aside0.mk (blk_below HB2.out hb_)
              replace HB3 := Aside0.mk (blk_below HB3.out hb_)
              clear x0_ x1_ x2_ x3_
              clear y0_ y1_ y2_ y3_
              clear z0_ z1_ z2_ z3_
              clear d0 d1 d2 d3
              clear hb_
              rw [HM1y.out]
              have d0 := (blk_cell HBX.out 0).trans rfl
              have d1 := (blk_cell HBX.out 1).trans rfl
              have d2 := (blk_cell HBX.out 2).trans rfl
              have d3 := (blk_cell HBX.out 3).trans rfl
              have x0_ := (blk_cell HB1.out 0).trans rfl
              have x1_ := (blk_cell HB1.out 1).trans rfl
              have x2_ := (blk_cell HB1.out 2).trans rfl
              have x3_ := (blk_cell HB1.out 3).trans rfl
              have y0_ := (blk_cell HB2.out 0).trans rfl
              have y1_ := (blk_cell HB2.out 1).trans rfl
              have y2_ := (blk_cell HB2.out 2).trans rfl
              have y3_ := (blk_cell HB2.out 3).trans rfl
              have z0_ := (blk_cell HB3.out 0).trans rfl
              have z1_ := (blk_cell HB3.out 1).trans rfl
              have z2_ := (blk_cell HB3.out 2).trans rfl
              have z3_ := (blk_cell HB3.out 3).trans rfl
              go_wp2_with fail
              refine (awake_c _).mono ?_
              rintro e w18_ ⟨rfl, hb_⟩
              replace HB := Aside0.mk (bt HB.out hb_)
              replace HBX := Aside0.mk (blk_below HBX.out hb_)
              replace HYh := Aside0.mk (Kd.C_below HYh.out hb_)
              replace HYf := Aside0.mk (Kd.C_below HYf.out hb_)
              replace HYx := Aside0.mk (Kd.C_below HYx.out hb_)
              replace HYy := Aside0.mk (Kd.C_below HYy.out hb_)
              replace HI1 := Aside0.mk (HI1.out.below hb_)
              replace HI2 := Aside0.mk (HI2.out.below hb_)
              replace HI3 := Aside0.mk (HI3.out.below hb_)
              replace HB1 := Aside0.mk (blk_below HB1.out hb_)
              replace HB2 := Aside0.mk (blk_below HB2.out hb_)
              replace HB3 := Aside0.mk (blk_below HB3.out hb_)
              clear x0_ x1_ x2_ x3_
              clear y0_ y1_ y2_ y3_
              clear z0_ z1_ z2_ z3_
              clear d0 d1 d2 d3
              clear hb_
              go_wp2_with fail
              go_ret
              exact ⟨ret_bool rfl, HB.out⟩
            · have ty : (ycy == 0) = false := by simpa using hzy
              clear hzy
              go_wp2_with fail
              refine (awake_c _).mono ?_
              rintro e w15_ ⟨rfl, hb_⟩
              replace HB := Aside0.mk (bt HB.out hb_)
              replace HBX := Aside0.mk (blk_below HBX.out hb_)
              replace HYh := Aside0.mk (Kd.C_below HYh.out hb_)
              replace HYf := Aside0.mk (Kd.C_below HYf.out hb_)
              replace HYx := Aside0.mk (Kd.C_below HYx.out hb_)
              replace HI1 := Aside0.mk (HI1.out.below hb_)
              replace HI2 := Aside0.mk (HI2.out.below hb_)
              replace HI3 := Aside0.mk (HI3.out.below hb_)
              replace HB1 := Aside0.mk (blk_below HB1.out hb_)
              replace HB2 := Aside0.mk (blk_below HB2.out hb_)
              replace HB3 := Aside0.mk (blk_below HB3.out hb_)
              clear x0_ x1_ x2_ x3_
              clear y0_ y1_ y2_ y3_
              clear z0_ z1_ z2_ z3_
              clear d0 d1 d2 d3
              clear hb_
              go_wp2_with fail
              go_ret
              exact ⟨ret_bool rfl, HB.out⟩
          · have tx : (ycx == 0) = false := by simpa using hzx
            clear hzx
            go_wp2_with fail
            refine (lfault_c Y2 _ HI2.out).mono ?_
            rintro e w11_ ⟨rfl, hb_⟩
            replace HB := Aside0.mk (bt HB.out hb_)
            replace HBX := Aside0.mk (blk_below HBX.out hb_)
            replace HYh := Aside0.mk (Kd.C_below HYh.out hb_)
            replace HYf := Aside0.mk (Kd.C_below HYf.out hb_)
            replace HI1 := Aside0.mk (HI1.out.below hb_)
            replace HI2 := Aside0.mk (HI2.out.below hb_)
            replace HI3 := Aside0.mk (HI3.out.below hb_)
            replace HB1 := Aside0.mk (blk_below HB1.out hb_)
            replace HB2 := Aside0.mk (blk_below HB2.out hb_)
            replace HB3 := Aside0.mk (blk_below HB3.out hb_)
            clear x0_ x1_ x2_ x3_
            clear y0_ y1_ y2_ y3_
            clear z0_ z1_ z2_ z3_
            clear d0 d1 d2 d3
            clear hb_
            have d0 := (blk_cell HBX.out 0).trans rfl
            have d1 := (blk_cell HBX.out 1).trans rfl
            have d2 := (blk_cell HBX.out 2).trans rfl
            have d3 := (blk_cell HBX.out 3).trans rfl
            have x0_ := (blk_cell HB1.out 0).trans rfl
            have x1_ := (blk_cell HB1.out 1).trans rfl
            have x2_ := (blk_cell HB1.out 2).trans rfl
            have x3_ := (blk_cell HB1.out 3).trans rfl
            have y0_ := (blk_cell HB2.out 0).trans rfl
            have y1_ := (blk_cell HB2.out 1).trans rfl
            have y2_ := (blk_cell HB2.out 2).trans rfl
            have y3_ := (blk_cell HB2.out 3).trans rfl
            have z0_ := (blk_cell HB3.out 0).trans rfl
            have z1_ := (blk_cell HB3.out 1).trans rfl
            have z2_ := (blk_cell HB3.out 2).trans rfl
            have z3_ := (blk_cell HB3.out 3).trans rfl
            obtain ⟨ycy, hyc⟩ : ∃ yc, Y2.lv.check = yc := ⟨_, rfl⟩
            have HYCy := Aside0.mk hyc
            rw [hyc]
            clear hyc
            by_cases hzy : ycy = 0
            · subst hzy
              obtain ⟨lsy, hm0, hm1⟩ := HL5.out HYCy.out
              have HM0y := Aside0.mk hm0
              have HM1y := Aside0.mk hm1
              clear hm0 hm1
              go_wp2_with fail
              refine (lland_c Y2 _ HI2.out HF2.out).mono ?_
              rintro e w12_ ⟨L, rfl, hO, hL, hb_⟩
              replace HB := Aside0.mk (bt HB.out hb_)
              replace HBX := Aside0.mk (blk_below HBX.out hb_)
              replace HYh := Aside0.mk (Kd.C_below HYh.out hb_)
              replace HYf := Aside0.mk (Kd.C_below HYf.out hb_)
              replace HI1 := Aside0.mk (HI1.out.below hb_)
              replace HI2 := Aside0.mk (HI2.out.below hb_)
              replace HI3 := Aside0.mk (HI3.out.below hb_)
              replace HB1 := Aside0.mk (blk_below HB1.out hb_)
              replace HB2 := Aside0.mk (blk_below HB2.out hb_)
              replace HB3 := Aside0.mk (blk_below HB3.out hb_)
              clear x0_ x1_ x2_ x3_
              clear y0_ y1_ y2_ y3_
              clear z0_ z1_ z2_ z3_
              clear d0 d1 d2 d3
              clear hb_
              have d0 := (blk_cell HBX.out 0).trans rfl
              have d1 := (blk_cell HBX.out 1).trans rfl
              have d2 := (blk_cell HBX.out 2).trans rfl
              have d3 := (blk_cell HBX.out 3).trans rfl
              have x0_ := (blk_cell HB1.out 0).trans rfl
              have x1_ := (blk_cell HB1.out 1).trans rfl
              have x2_ := (blk_cell HB1.out 2).trans rfl
              have x3_ := (blk_cell HB1.out 3).trans rfl
              have y0_ := (blk_cell HB2.out 0).trans rfl
              have y1_ := (blk_cell HB2.out 1).trans rfl
              have y2_ := (blk_cell HB2.out 2).trans rfl
              have y3_ := (blk_cell HB2.out 3).trans rfl
              have z0_ := (blk_cell HB3.out 0).trans rfl
              have z1_ := (blk_cell HB3.out 1).trans rfl
              have z2_ := (blk_cell HB3.out 2).trans rfl
              have z3_ := (blk_cell HB3.out 3).trans rfl
              have HO := Aside0.mk hO
              have HL := Aside0.mk hL
              clear hO hL
              go_wp2_with fail
              refine (of_hours HO.out HL.out pa pb ck).mono ?_
              rintro e w13_ ⟨Aay, cay, rfl, hY, hb_⟩
              replace HB := Aside0.mk (bt HB.out hb_)
              replace HBX := Aside0.mk (blk_below HBX.out hb_)
              replace HYh := Aside0.mk (Kd.C_below HYh.out hb_)
              replace HYf := Aside0.mk (Kd.C_below HYf.out hb_)
              replace HI1 := Aside0.mk (HI1.out.below hb_)
              replace HI2 := Aside0.mk (HI2.out.below hb_)
              replace HI3 := Aside0.mk (HI3.out.below hb_)
              replace HB1 := Aside0.mk (blk_below HB1.out hb_)
              replace HB2 := Aside0.mk (blk_below HB2.out hb_)
              replace HB3 := Aside0.mk (blk_below HB3.out hb_)
              clear x0_ x1_ x2_ x3_
              clear y0_ y1_ y2_ y3_
              clear z0_ z1_ z2_ z3_
              clear d0 d1 d2 d3
              clear hb_
              have d0 := (blk_cell HBX.out 0).trans rfl
              have d1 := (blk_cell HBX.out 1).trans rfl
              have d2 := (blk_cell HBX.out 2).trans rfl
              have d3 := (blk_cell HBX.out 3).trans rfl
              have x0_ := (blk_cell HB1.out 0).trans rfl
              have x1_ := (blk_cell HB1.out 1).trans rfl
              have x2_ := (blk_cell HB1.out 2).trans rfl
              have x3_ := (blk_cell HB1.out 3).trans rfl
              have y0_ := (blk_cell HB2.out 0).trans rfl
              have y1_ := (blk_cell HB2.out 1).trans rfl
              have y2_ := (blk_cell HB2.out 2).trans rfl
              have y3_ := (blk_cell HB2.out 3).trans rfl
              have z0_ := (blk_cell HB3.out 0).trans rfl
              have z1_ := (blk_cell HB3.out 1).trans rfl
              have z2_ := (blk_cell HB3.out 2).trans rfl
              have z3_ := (blk_cell HB3.out 3).trans rfl
              rw [HM0y.out] at hY
              rw [HM0y.out]
              have HYy := Aside0.mk hY
              clear hY HO HL
              have lyy := HYy.out.2.1
              go_wp2_with fail
              refine (within_l Aay Aah cay cah lsy hs _ HYy.out HYh.out).mono ?_
              rintro e w14_ ⟨rfl, hb_⟩
              replace HB := Aside0.mk (bt HB.out hb_)
              replace HBX := Aside0.mk (blk_below HBX.out hb_)
              replace HYh := Aside0.mk (Kd.C_below HYh.out hb_)
              replace HYf := Aside0.mk (Kd.C_below HYf.out hb_)
              replace HYy := Aside0.mk (Kd.C_below HYy.out hb_)
              replace HI1 := Aside0.mk (HI1.out.below hb_)
              replace HI2 := Aside0.mk (HI2.out.below hb_)
              replace HI3 := Aside0.mk (HI3.out.below hb_)
              replace HB1 := Aside0.mk (blk_below HB1.out hb_)
              replace HB2 := Aside0.mk (blk_below HB2.out hb_)
              replace HB3 := Aside0.mk (blk_below HB3.out hb_)
              clear x0_ x1_ x2_ x3_
              clear y0_ y1_ y2_ y3_
              clear z0_ z1_ z2_ z3_
              clear d0 d1 d2 d3
              clear hb_
              rw [HM1y.out]
              have d0 := (blk_cell HBX.out 0).trans rfl
              have d1 := (blk_cell HBX.out 1).trans rfl
              have d2 := (blk_cell HBX.out 2).trans rfl
              have d3 := (blk_cell HBX.out 3).trans rfl
              have x0_ := (blk_cell HB1.out 0).trans rfl
              have x1_ := (blk_cell HB1.out 1).trans rfl
              have x2_ := (blk_cell HB1.out 2).trans rfl
              have x3_ := (blk_cell HB1.out 3).trans rfl
              have y0_ := (blk_cell HB2.out 0).trans rfl
              have y1_ := (blk_cell HB2.out 1).trans rfl
              have y2_ := (blk_cell HB2.out 2).trans rfl
              have y3_ := (blk_cell HB2.out 3).trans rfl
              have z0_ := (blk_cell HB3.out 0).trans rfl
              have z1_ := (blk_cell HB3.out 1).trans rfl
              have z2_ := (blk_cell HB3.out 2).trans rfl
              have z3_ := (blk_cell HB3.out 3).trans rfl
              go_wp2_with fail
              refine (awake_c _).mono ?_
              rintro e w15_ ⟨rfl, hb_⟩
              replace HB := Aside0.mk (bt HB.out hb_)
              replace HBX := Aside0.mk (blk_below HBX.out hb_)
              replace HYh := Aside0.mk (Kd.C_below HYh.out hb_)
              replace HYf := Aside0.mk (Kd.C_below HYf.out hb_)
              replace HYy := Aside0.mk (Kd.C_below HYy.out hb_)
              replace HI1 := Aside0.mk (HI1.out.below hb_)
              replace HI2 := Aside0.mk (HI2.out.below hb_)
              replace HI3 := Aside0.mk (HI3.out.below hb_)
              replace HB1 := Aside0.mk (blk_below HB1.out hb_)
              replace HB2 := Aside0.mk (blk_below HB2.out hb_)
              replace HB3 := Aside0.mk (blk_below HB3.out hb_)
              clear x0_ x1_ x2_ x3_
              clear y0_ y1_ y2_ y3_
              clear z0_ z1_ z2_ z3_
              clear d0 d1 d2 d3
              clear hb_
              go_wp2_with fail
              go_ret
              exact ⟨ret_bool rfl, HB.out⟩
            · have ty : (ycy == 0) = false := by simpa using hzy
              clear hzy
              go_wp2_with fail
              refine (awake_c _).mono ?_
              rintro e w12_ ⟨rfl, hb_⟩
              replace HB := Aside0.mk (bt HB.out hb_)
              replace HBX := Aside0.mk (blk_below HBX.out hb_)
              replace HYh := Aside0.mk (Kd.C_below HYh.out hb_)
              replace HYf := Aside0.mk (Kd.C_below HYf.out hb_)
              replace HI1 := Aside0.mk (HI1.out.below hb_)
              replace HI2 := Aside0.mk (HI2.out.below hb_)
              replace HI3 := Aside0.mk (HI3.out.below hb_)
              replace HB1 := Aside0.mk (blk_below HB1.out hb_)
              replace HB2 := Aside0.mk (blk_below HB2.out hb_)
              replace HB3 := Aside0.mk (blk_below HB3.out hb_)
              clear x0_ x1_ x2_ x3_
              clear y0_ y1_ y2_ y3_
              clear z0_ z1_ z2_ z3_
              clear d0 d1 d2 d3
              clear hb_
              go_wp2_with fail
              go_ret
              exact ⟨ret_bool rfl, HB.out⟩
end Go.Proofs.Ytkbdphjnpieceaa.G
namespace Go.Proofs.Ytkbdphjnpieceaa.hillMore
open Go.ChangeShapes Go.WideShapes Go.ChangeAt Go.RowKit Go.Proofs.Ytkbdphjnpieceaa.G
set_option linter.unusedVariables false
theorem own : ownKnob Try.prog.godebug = none := by kernel_rfl
theorem laidOut : laidOutB Try.prog = true := by kernel_rfl
set_option maxRecDepth 100000 in
theorem lifted (os : Os) (started : os.Started) (H : Type) (enc : TypeId × Value → H) :
    ReturnsInHanded {} Try.checked os 5 .any (Rows.hillMoreSpec.pre6 enc Try.prog Try.f5 Rows.hillMoreRow.domain false) (Rows.hillMoreSpec.post enc Try.prog Try.f5 false true false false) := by
  refine returnsInHanded_of_change_sized (C := Try.checked) own started (by kernel_rfl) Try.func5
    (ChangeSpec.witness6 (enc := enc) (C := Try.checked) false ⟨#[], #[.agg #[.slice none 0 0, .slice none 0 0, .slice none 0 0, .slice none 0 0], .int .u8 0, .int .u8 0, .agg #[.int .i64 0, .int .i64 0, .int .i64 0, .int .i64 0, .int .i64 0, .int .i64 0], .int .u8 0, .int .u8 0], []⟩ 8 (by kernel_rfl) (by kernel_rfl) (by kernel_rfl) (by kernel_rfl)) ?_
  intro W base args ds gs before hval0 hW hcnd hsz0 _
  have hval : ∀ (j : Nat) t v, Try.f5.params[j]? = some t → args[j]? = some v → Value.okWide Try.prog W .any base t v := hval0
  have hW' := hW
  obtain ⟨p, q, hA0, hV, rfl, hfz, hnd⟩ := hW
  have hA : DataW.TrodAll enc Try.prog W 0 (fun _ => true) true Try.f5.params.toList args.toList ds p := hA0
  rw [Try.params5] at hA hval
  obtain ⟨v0, vs0, d0, ds0, p0, q0, hargs, rfl, rfl, h0, r0⟩ := trodAll_cons hA
  obtain ⟨v1, vs1, d1, ds1, p1, q1, rfl, rfl, rfl, h1, r1⟩ := trodAll_cons r0
  obtain ⟨v2, vs2, d2, ds2, p2, q2, rfl, rfl, rfl, h2, r2⟩ := trodAll_cons r1
  obtain ⟨v3, vs3, d3, ds3, p3, q3, rfl, rfl, rfl, h3, r3⟩ := trodAll_cons r2
  obtain ⟨v4, vs4, d4, ds4, p4, q4, rfl, rfl, rfl, h4, r4⟩ := trodAll_cons r3
  obtain ⟨v5, vs5, d5, ds5, p5, q5, rfl, rfl, rfl, h5, r5⟩ := trodAll_cons r4
  obtain ⟨rfl, rfl, rfl⟩ := trodAll_nil r5
  obtain rfl : args = #[v0, v1, v2, v3, v4, v5] := by cases args; simp_all
  obtain ⟨rfl, rfl⟩ := trodVars_none hV
  have k0 := h0
  have lt0 : ∀ x ∈ p0, x.block < W.heap.size := by obtain ⟨m, hm⟩ := k0; exact DataW.trod_lt m _ _ _ hm
  obtain ⟨a0, rfl, w0⟩ := open_land (hval 0 27 v0 rfl rfl) h0
  obtain ⟨a1, rfl, rfl, rfl, w1⟩ := open_int Try.underlying5 (hval 1 5 v1 rfl rfl) h1
  obtain ⟨a2, rfl, rfl, rfl, w2⟩ := open_int Try.underlying5 (hval 2 5 v2 rfl rfl) h2
  have k3 := h3
  have lt3 : ∀ x ∈ p3, x.block < W.heap.size := by obtain ⟨m, hm⟩ := k3; exact DataW.trod_lt m _ _ _ hm
  obtain ⟨a3, rfl⟩ := open_wall (hval 3 55 v3 rfl rfl) h3
  obtain ⟨a4, rfl, rfl, rfl, w4⟩ := open_int Try.underlying5 (hval 4 5 v4 rfl rfl) h4
  obtain ⟨a5, rfl, rfl, rfl, w5⟩ := open_int Try.underlying5 (hval 5 5 v5 rfl rfl) h5
  clear hA0 hval0 hsz0
  refine (G.hillMore_c a0 a1 a2 a3 a4 a5 W w0 w1 w2 w4 w5).mono fun e W' ⟨he, bel⟩ => ?_
  subst he
  exact ⟨_, rfl, _, _, _, [], _, [], hW', trodAll_mk1 (shut_bool Try.underlying4 _), (trodAll_cons_mk (Below.trod laidOut (by kernel_rfl) (of_decide_eq_true (by kernel_rfl)) k0 bel lt0) (trodAll_cons_mk (shut_int Try.underlying5 w1) (trodAll_cons_mk (shut_int Try.underlying5 w2) (trodAll_cons_mk (Below.trod laidOut (by kernel_rfl) (of_decide_eq_true (by kernel_rfl)) k3 bel lt3) (trodAll_cons_mk (shut_int Try.underlying5 w4) (trodAll_cons_mk (shut_int Try.underlying5 w5) trodAll_mk0)))))), rfl, bel.frame _, fun h => by cases h⟩
theorem over : Rows.hillMoreRow.holds Try.pinned (OpenSpec.ofChange Rows.hillMoreSpec) :=
  OpenClaim.holds_of_wide 5 Try.f5 rfl rfl rfl rfl rfl rfl rfl ⟨rfl, rfl, rfl, rfl, rfl⟩ rfl rfl rfl rfl rfl (by kernel_rfl) Try.func5 (by kernel_rfl)
    (of_decide_eq_true (by kernel_rfl)) (by unfold Func.isWrapper; first | (rw [if_pos (by decide +kernel)]; kernel_rfl) | (rw [if_neg (by decide +kernel)]; exact ⟨rfl, rfl⟩))
    (fun os started H enc _ => lifted os started H enc)
theorem proved : Rows.HillMoreSaid := over
#print axioms proved
end Go.Proofs.Ytkbdphjnpieceaa.hillMore
namespace Go.Proofs.Ytkbdphjnpieceaa
/-- The row, under a short name, for the claim. -/
theorem hillMore_holds : Rows.HillMoreSaid := hillMore.proved
end Go.Proofs.Ytkbdphjnpieceaa

