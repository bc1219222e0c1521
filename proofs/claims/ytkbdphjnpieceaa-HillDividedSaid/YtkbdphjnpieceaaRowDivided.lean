/- HillDivided holds: for every input the call returns true, and each argument reads afterwards as it read before; no condition. -/
import Derived.Test.YtkbdphjnpieceaaRows
import Derived.WalkKit
import Derived.ProofKit
import Derived.OpenShut
import Derived.ShutString
import Derived.ChangeOld
import Derived.Below
import Derived.SizedLaws
import Derived.Test.YtkbdphjnpieceaaC4
import Derived.Test.YtkbdphjnpieceaaA1
import Derived.Test.YtkbdphjnpieceaaP4
namespace Go.Proofs.Ytkbdphjnpieceaa.G
open Go.RowKit Go.Proofs.YtkbdphjnpieceaaW.PrintWords Go.Proofs.YtkbdphjnpieceaaW.PrintLast Go.Proofs.YtkbdphjnpieceaaW.PrintMore
set_option linter.unusedVariables false
set_option linter.unusedSimpArgs false
open Go.Sort (grow)
theorem lvri (R : Rv) (i : Int) : rd_T86 R.lv.ri i = cWl (rd_T55 R.ri i) := getD_map_ cWl R.ri i.toNat z55
theorem rd_T55_set {xs : List S55} {i j : Int} (h0 : 0 ≤ i) (h1 : i < xs.length) (hj : 0 ≤ j) (x : S55) : rd_T55 (xs.set i.toNat x) j = if j = i then x else rd_T55 xs j := by
  unfold rd_T55
  rw [getD_set_]
  by_cases h : j = i
  · subst h
    rw [if_pos ⟨rfl, by omega⟩, if_pos rfl]
  · rw [if_neg (fun c => h (by omega)), if_neg h]
theorem set_rd_T55 {xs : List S55} {i : Int} (h0 : 0 ≤ i) (h1 : i < xs.length) : xs.set i.toNat (rd_T55 xs i) = xs := by
  have hl : i.toNat < xs.length := by omega
  unfold rd_T55
  rw [List.getD_eq_getElem?_getD, List.getElem?_eq_getElem hl]
  exact List.set_getElem_self hl
section
variable {X : Rv} {ok : Nat → Prop} {base q : Nat} {W : World} {i : Int} {V : S55}
theorem Ow.at55 (h : Ow { X with ri := X.ri.set i.toNat V } ok base W) (hA : X.A1 = some ⟨q, 0, none⟩) (h0 : 0 ≤ i) (h1 : i < X.ri.length) :
    (∃ cells, W.heap[q]? = some (.cells cells 55 (0, 0))) ∧ ∀ k u, (g55 V)[k]? = some u → W.cell? ⟨q, i.toNat * 6 + k, none⟩ = some u := by
  obtain ⟨q', e, _, _, hc, hcc, _⟩ := Ow.ri (i := i) h h0 (by simpa using h1)
  have e' := hA.symm.trans e
  injection e' with e'
  injection e' with e'
  subst e'
  rw [rd_T55_set h0 h1 h0, if_pos rfl] at hcc
  exact ⟨hc, hcc⟩
theorem Ow.put55 (h : Ow { X with ri := X.ri.set i.toNat V } ok base W) (hA : X.A1 = some ⟨q, 0, none⟩) (h0 : 0 ≤ i) (h1 : i < X.ri.length) (k : Nat) (u : Value) (V' : S55) (hk : k < 6) (hx : (g55 V).take k ++ [u] ++ (g55 V).drop (k + 1) = g55 V') :
    Ow { X with ri := X.ri.set i.toNat V' } ok base (W.setCell ⟨q, i.toNat * 6 + k, none⟩ u) := by
  obtain ⟨q', e, _, _, _, _, hs⟩ := Ow.ri (i := i) h h0 (by simpa using h1)
  have e' := hA.symm.trans e
  injection e' with e'
  injection e' with e'
  subst e'
  rw [rd_T55_set h0 h1 h0, if_pos rfl] at hs
  have := hs k u V' hk hx
  simpa only [List.set_set] using this
end
theorem all_split {α : Type} (p : α → Bool) : ∀ (xs : List α) (i : Nat) (P Q z : α), i < xs.length → (p P && p Q) = p (xs.getD i z) → (xs.set i P ++ [Q]).all p = xs.all p
  | [], i, P, Q, z, h, _ => absurd h (by simp)
  | x :: xs, 0, P, Q, z, h, e => by
    simp only [List.set_cons_zero, List.cons_append, List.all_cons, List.all_append, List.all_nil, Bool.and_true]
    rw [show p x = (p P && p Q) from e.symm]
    cases p P <;> cases p Q <;> cases xs.all p <;> rfl
  | x :: xs, i + 1, P, Q, z, h, e => by
    simp only [List.set_cons_succ, List.cons_append, List.all_cons]
    rw [all_split p xs i P Q z (by simpa using h) e]
theorem ridge_ends {x : S86} (h : ridgeOK x = true) : ridgeOK ⟨x.f2, x.f3, x.f0, x.f1, x.f4, x.f5⟩ = true := by
  unfold ridgeOK wallOK at h ⊢
  simp only [Bool.and_eq_true, Bool.not_eq_true', Bool.and_eq_false_iff, beq_eq_false_iff_ne] at h ⊢
  obtain ⟨⟨⟨⟨⟨h1, h2⟩, h3⟩, h4⟩, h5⟩, h6⟩ := h
  exact ⟨⟨⟨⟨⟨h2, h1⟩, h3.imp Ne.symm Ne.symm⟩, h4⟩, h5⟩, h6⟩
theorem between {x y d n k : Int} (h0 : 0 < k) (h1 : k < n) (hx : 0 ≤ x ∧ x ≤ 100) (hy : 0 ≤ y ∧ y ≤ 100) (e : y - x = d * n) : 0 ≤ x + d * k ∧ x + d * k ≤ 100 := by
  by_cases hd : 0 ≤ d
  · have m1 := Int.mul_nonneg hd (show 0 ≤ k by omega)
    have m2 := Int.mul_le_mul_of_nonneg_left (show k ≤ n by omega) hd
    omega
  · have m1 := Int.mul_nonneg (show 0 ≤ -d by omega) (show 0 ≤ k by omega)
    have m2 := Int.mul_le_mul_of_nonneg_left (show k ≤ n by omega) (show 0 ≤ -d by omega)
    rw [Int.neg_mul] at m1
    rw [Int.neg_mul, Int.neg_mul] at m2
    omega
theorem div_bd {d n e : Int} (hn : 2 ≤ n) (h : e = d * n) (he : -100 ≤ e ∧ e ≤ 100) : -50 ≤ d ∧ d ≤ 50 := by
  by_cases hd : 0 ≤ d
  · have := Int.mul_le_mul_of_nonneg_left hn hd
    omega
  · have := Int.mul_le_mul_of_nonneg_left hn (show 0 ≤ -d by omega)
    rw [Int.neg_mul, Int.neg_mul] at this
    omega
theorem onB_iff {x y : Int} : onB x y = true ↔ (0 ≤ x ∧ x ≤ 100) ∧ 0 ≤ y ∧ y ≤ 100 := by
  unfold onB inB
  simp only [Bool.and_eq_true, decide_eq_true_eq]
/-- Both parts of a ridge are ridges. -/
theorem ridge_parts {x : S86} {n k d0 d1 : Int} (h : ridgeOK x = true) (h0 : 0 < k) (h1 : k < n) (e0 : x.f2 - x.f0 = d0 * n) (e1 : x.f3 - x.f1 = d1 * n) :
    ridgeOK ⟨x.f0, x.f1, x.f0 + d0 * k, x.f1 + d1 * k, x.f4, x.f5⟩ = true ∧ ridgeOK ⟨x.f0 + d0 * k, x.f1 + d1 * k, x.f2, x.f3, 0, x.f5⟩ = true := by
  unfold ridgeOK wallOK at h ⊢
  simp only [Bool.and_eq_true, Bool.not_eq_true', Bool.and_eq_false_iff, beq_eq_false_iff_ne, onB_iff, beq_iff_eq] at h ⊢
  obtain ⟨⟨⟨⟨⟨⟨a0, a1⟩, b0, b1⟩, h3⟩, h4⟩, h5⟩, h6⟩ := h
  have u := between h0 h1 a0 b0 e0
  have v := between h0 h1 a1 b1 e1
  have z : ∀ {d m : Int}, 0 < m → d * m = 0 → d = 0 := fun hm hd => by
    rcases Int.mul_eq_zero.1 hd with q | q
    · exact q
    · omega
  have hd : d0 ≠ 0 ∨ d1 ≠ 0 := by
    rcases h3 with q | q
    · exact .inl fun c => q (by rw [c, Int.zero_mul] at e0; omega)
    · exact .inr fun c => q (by rw [c, Int.zero_mul] at e1; omega)
  have s0 : x.f2 - (x.f0 + d0 * k) = d0 * (n - k) := by rw [Int.mul_sub, ← e0]; omega
  have s1 : x.f3 - (x.f1 + d1 * k) = d1 * (n - k) := by rw [Int.mul_sub, ← e1]; omega
  refine ⟨⟨⟨⟨⟨⟨⟨a0, a1⟩, u, v⟩, ?_⟩, h4⟩, h5⟩, h6⟩, ⟨⟨⟨⟨⟨u, v⟩, b0, b1⟩, ?_⟩, ?_⟩, h5⟩, trivial⟩
  · exact hd.imp (fun q c => q (z h0 (by omega))) (fun q c => q (z h0 (by omega)))
  · exact hd.imp (fun q c => q (z (show 0 < n - k by omega) (by omega))) (fun q c => q (z (show 0 < n - k by omega) (by omega)))
  · unfold inB at h4 ⊢
    simp only [Bool.and_eq_true, decide_eq_true_eq] at h4 ⊢
    omega
theorem ridge_bd {x : S86} (h : ridgeOK x = true) : ((0 ≤ x.f0 ∧ x.f0 ≤ 100) ∧ 0 ≤ x.f1 ∧ x.f1 ≤ 100) ∧ (0 ≤ x.f2 ∧ x.f2 ≤ 100) ∧ 0 ≤ x.f3 ∧ x.f3 ≤ 100 := by
  unfold ridgeOK wallOK at h
  simp only [Bool.and_eq_true, onB_iff] at h
  exact ⟨h.1.1.1.1.1, h.1.1.1.1.2⟩
theorem few_ri {R X : Rv} (hF : R.Few) (hs : X.st = R.st) (hr : X.ri.length ≤ 1000) (hc : X.ca = R.ca) (hu : X.su = R.su) : X.Few := ⟨by rw [hs]; exact hF.s, hr, by rw [hu]; exact hF.u, by rw [hc]; exact hF.c, by rw [hc]; exact hF.cc⟩
theorem ri_mem {xs : List S55} {i : Int} (h0 : 0 ≤ i) (h1 : i < xs.length) : rd_T55 xs i ∈ xs := by
  unfold rd_T55
  rw [List.getD_eq_getElem?_getD, List.getElem?_eq_getElem (by omega : i.toNat < xs.length)]
  exact List.getElem_mem _
/-- The ends of a ridge exchanged. -/
theorem ends_law {R X : Rv} {a b i : Int} (hC : R.lv.check = 0) (hF : R.Few) (ha : 0 ≤ a ∧ a < R.st.length) (hb : 0 ≤ b ∧ b < R.st.length) (hne : a ≠ b) (hc1 : 1 ≤ R.ca.length) (hu1 : 1 ≤ R.su.length) (h0 : 0 ≤ i) (h1 : i < R.ri.length)
    (hs : X.st = R.st) (hr : X.ri = R.ri.set i.toNat ⟨(rd_T55 R.ri i).f2, (rd_T55 R.ri i).f3, (rd_T55 R.ri i).f0, (rd_T55 R.ri i).f1, (rd_T55 R.ri i).f4, (rd_T55 R.ri i).f5⟩) (hc : X.ca = R.ca) (hu : X.su = R.su) : X.Few ∧ Agree R.lv X.lv a b := by
  have e0 : X.lv.st = R.lv.st := by show X.st.map cSt = _; rw [hs]; rfl
  have e2 : X.lv.ca = R.lv.ca := by show X.ca.map (·.map cCl) = _; rw [hc]; rfl
  have e3 : X.lv.su = R.lv.su := by show X.su.map cSu = _; rw [hu]; rfl
  have el : X.ri.length = R.ri.length := by rw [hr, List.length_set]
  have hX : X.lv.check = 0 := by
    show checkF X.lv.st X.lv.ri X.lv.ca X.lv.su = 0
    rw [e0, e2, e3]
    refine check_sub hC (by rw [lv_len1, el, ← lv_len1]; have := (small_of hC).2.1; omega) (fun x hx => ?_) rfl (case_ok hC)
    obtain ⟨y, hy, rfl⟩ := List.mem_map.1 (show x ∈ X.ri.map cWl from hx)
    rw [hr] at hy
    rcases List.mem_or_eq_of_mem_set hy with h2 | h2
    · exact ridge_ok hC _ (List.mem_map.2 ⟨y, h2, rfl⟩)
    · rw [h2]
      exact ridge_ends (ridge_ok hC (cWl (rd_T55 R.ri i)) (List.mem_map.2 ⟨_, ri_mem h0 h1, rfl⟩))
  refine ⟨few_ri hF hs (by rw [el]; exact hF.r) hc hu, Same.agree ⟨by rw [e0], by rw [lv_len1, lv_len1, el], by rw [e2], by rw [e3], by rw [e0], by rw [e0], fun j n j0 j1 => ?_, fun k k0 k1 => ?_, fun h q0 q1 => by rw [e3, e0]; exact ⟨rfl, rfl⟩⟩ hC hX
    (fun k h k0 k1 q0 q1 => ask_mk (at_pair ha hb ⟨k0, by rw [lv_len2] at k1; exact k1⟩ ⟨q0, by rw [lv_len3] at q1; exact q1⟩) hne) (by rw [lv_len2]; omega) (by rw [lv_len3]; omega)⟩
  · rw [lv_len1] at j1
    rw [e0, lvri, lvri, hr, rd_T55_set h0 h1 j0]
    split
    · rename_i hj
      subst hj
      exact block_ends (cWl (rd_T55 R.ri j)) _ _
    · rfl
  · rw [e2]
    refine ⟨rfl, fun h i _ _ => ?_⟩
    unfold clB
    rw [e2, e0]
/-- A ridge divided at a place on it. -/
theorem part_law {R Y : Rv} {a b i n k d0 d1 : Int} {w : S55} (hC : R.lv.check = 0) (hF : R.Few) (ha : 0 ≤ a ∧ a < R.st.length) (hb : 0 ≤ b ∧ b < R.st.length) (hne : a ≠ b) (hc1 : 1 ≤ R.ca.length) (hu1 : 1 ≤ R.su.length) (h0 : 0 ≤ i) (h1 : i < R.ri.length) (hl : R.ri.length ≤ 5)
    (hk0 : 0 < k) (hk1 : k < n) (hw : rd_T55 R.ri i = w) (q0 : w.f2 - w.f0 = d0 * n) (q1 : w.f3 - w.f1 = d1 * n)
    (hs : Y.st = R.st) (hr : Y.ri = R.ri.set i.toNat ⟨w.f0, w.f1, w.f0 + d0 * k, w.f1 + d1 * k, w.f4, w.f5⟩ ++ [⟨w.f0 + d0 * k, w.f1 + d1 * k, w.f2, w.f3, 0, w.f5⟩]) (hc : Y.ca = R.ca) (hu : Y.su = R.su) :
    Y.Few ∧ ∃ ps xs qs ys, wallsE R.lv a b 0 0 = (ps, xs, 0) ∧ wallsE Y.lv a b 0 0 = (qs, ys, 0) ∧ withinB [i] ps = (withinB [i] qs || withinB [(R.ri.length : Int)] qs) ∧ riseE Y.lv a b = riseE R.lv a b := by
  have e0 : Y.lv.st = R.lv.st := by show Y.st.map cSt = _; rw [hs]; rfl
  have e2 : Y.lv.ca = R.lv.ca := by show Y.ca.map (·.map cCl) = _; rw [hc]; rfl
  have e3 : Y.lv.su = R.lv.su := by show Y.su.map cSu = _; rw [hu]; rfl
  have el : Y.ri.length = R.ri.length + 1 := by rw [hr, List.length_append, List.length_set, List.length_singleton]
  have hm : cWl w ∈ R.lv.ri := by rw [← hw]; exact List.mem_map.2 ⟨_, ri_mem h0 h1, rfl⟩
  have w4 : w.f4 = 0 := by
    have := ridge_ok hC _ hm
    unfold ridgeOK at this
    rw [Bool.and_eq_true, beq_iff_eq] at this
    exact this.2
  have hp := ridge_parts (x := cWl w) (ridge_ok hC _ hm) hk0 hk1 q0 q1
  have hX : Y.lv.check = 0 := by
    show checkF Y.lv.st Y.lv.ri Y.lv.ca Y.lv.su = 0
    rw [e0, e2, e3]
    refine check_sub hC (by rw [lv_len1, el]; omega) (fun x hx => ?_) rfl (case_ok hC)
    obtain ⟨y, hy, rfl⟩ := List.mem_map.1 (show x ∈ Y.ri.map cWl from hx)
    rw [hr] at hy
    rcases List.mem_append.1 hy with hy | hy
    · rcases List.mem_or_eq_of_mem_set hy with h2 | h2
      · exact ridge_ok hC _ (List.mem_map.2 ⟨y, h2, rfl⟩)
      · rw [h2]; exact hp.1
    · rw [List.mem_singleton.1 hy]; exact hp.2
  have hq : R.lv.ask a b 0 0 = 0 := ask_mk (at_pair ha hb ⟨Int.le_refl 0, by omega⟩ ⟨Int.le_refl 0, by omega⟩) hne
  have hqy : Y.lv.ask a b 0 0 = 0 := by rw [ask_len (L := R.lv) (by rw [e0]) (by rw [e2]) (by rw [e3])]; exact hq
  have r0 : rd_T86 R.lv.ri i = cWl w := by rw [lvri, hw]
  have rY : ∀ j : Int, 0 ≤ j → j < R.ri.length → rd_T55 Y.ri j = rd_T55 (R.ri.set i.toNat ⟨w.f0, w.f1, w.f0 + d0 * k, w.f1 + d1 * k, w.f4, w.f5⟩) j := fun j j0 j1 => by
    rw [hr]
    unfold rd_T55
    rw [List.getD_eq_getElem?_getD, List.getElem?_append_left (by rw [List.length_set]; omega), List.getD_eq_getElem?_getD]
  have r1 : rd_T86 Y.lv.ri i = cWl ⟨w.f0, w.f1, w.f0 + d0 * k, w.f1 + d1 * k, w.f4, w.f5⟩ := by rw [lvri, rY i h0 h1, rd_T55_set h0 h1 h0, if_pos rfl]
  have r2 : rd_T86 Y.lv.ri (R.ri.length : Int) = cWl ⟨w.f0 + d0 * k, w.f1 + d1 * k, w.f2, w.f3, 0, w.f5⟩ := by
    rw [lvri, hr]
    unfold rd_T55
    rw [Int.toNat_natCast, List.getD_eq_getElem?_getD, List.getElem?_append_right (by rw [List.length_set]; exact Nat.le_refl _), List.length_set, Nat.sub_self]
    rfl
  have hb' : ∀ s t : S85, blocksB (cWl w) s t = (blocksB (cWl ⟨w.f0, w.f1, w.f0 + d0 * k, w.f1 + d1 * k, w.f4, w.f5⟩) s t || blocksB (cWl ⟨w.f0 + d0 * k, w.f1 + d1 * k, w.f2, w.f3, 0, w.f5⟩) s t) := fun s t => by
    have := block_part (x := cWl w) (a := s) (b := t) hk0 hk1 q0 q1 rfl rfl
    rw [this]
    congr 1
    show blocksB ⟨_, _, _, _, w.f4, _⟩ s t = _
    rw [w4]
    rfl
  refine ⟨few_ri hF hs (by rw [el]; omega) hc hu, _, _, _, _, walls_ok hC hq, walls_ok hX hqy, ?_, ?_⟩
  · have v0 := within_one (p := fun j => blocksB (rd_T86 R.lv.ri j) (rd_T85 R.lv.st a) (rd_T85 R.lv.st b)) (n := R.lv.ri.length) (t := i) h0 (by rw [lv_len1]; exact h1)
    have v1 := within_one (p := fun j => blocksB (rd_T86 Y.lv.ri j) (rd_T85 Y.lv.st a) (rd_T85 Y.lv.st b)) (n := Y.lv.ri.length) (t := i) h0 (by rw [lv_len1, el]; omega)
    have v2 := within_one (p := fun j => blocksB (rd_T86 Y.lv.ri j) (rd_T85 Y.lv.st a) (rd_T85 Y.lv.st b)) (n := Y.lv.ri.length) (t := (R.ri.length : Int)) (by omega) (by rw [lv_len1, el]; omega)
    simp only [r0] at v0
    simp only [r1, e0] at v1
    simp only [r2, e0] at v2
    have u0 : withinB [i] (ridgesL R.lv a b) = blocksB (cWl w) (rd_T85 R.lv.st a) (rd_T85 R.lv.st b) := v0
    have u1 : withinB [i] (ridgesL Y.lv a b) = blocksB (cWl ⟨w.f0, w.f1, w.f0 + d0 * k, w.f1 + d1 * k, w.f4, w.f5⟩) (rd_T85 R.lv.st a) (rd_T85 R.lv.st b) := by unfold ridgesL; rw [e0]; exact v1
    have u2 : withinB [(R.ri.length : Int)] (ridgesL Y.lv a b) = blocksB (cWl ⟨w.f0 + d0 * k, w.f1 + d1 * k, w.f2, w.f3, 0, w.f5⟩) (rd_T85 R.lv.st a) (rd_T85 R.lv.st b) := by unfold ridgesL; rw [e0]; exact v2
    rw [u0, u1, u2]
    exact hb' _ _
  · refine rise_same (by rw [e0]) ?_ hX hC hqy hq
    rw [e0]
    funext m
    unfold freeB
    have er : Y.lv.ri = R.lv.ri.set i.toNat (cWl ⟨w.f0, w.f1, w.f0 + d0 * k, w.f1 + d1 * k, w.f4, w.f5⟩) ++ [cWl ⟨w.f0 + d0 * k, w.f1 + d1 * k, w.f2, w.f3, 0, w.f5⟩] := by
      show Y.ri.map cWl = _
      rw [hr, List.map_append, List.map_set]
      rfl
    rw [er]
    refine all_split _ _ _ _ _ z86 (by rw [lv_len1]; omega) ?_
    have : R.lv.ri.getD i.toNat z86 = cWl w := r0
    rw [this, hb', Bool.not_or]
def divided.T6 : Bool × List (List Nat × List Nat) := (true, [([], []), ([0], [0]), ([], []), ([2, 1], [2]), ([], []), ([], []), ([4, 1, 3, 0, 1, 4, 5], [1, 4]), ([5, 3, 6, 0, 1, 2, 3, 4, 5, 6], [3, 5])])
def divided.B6 : List Nat := [0, 1, 0, 7, 0, 0, 63, 127]
theorem divided.tab6 : rtab .any (opsOf Try.f7 6) = divided.T6 := by kernel_rfl
theorem divided.bits6 : waitsOk divided.T6.2 divided.B6 = true := by kernel_rfl
def divided.T7 : Bool × List (List Nat × List Nat) := (true, [([], []), ([0], [0]), ([], []), ([], []), ([3], [3]), ([], []), ([], []), ([6], [6]), ([], []), ([], []), ([9], [9]), ([], []), ([], []), ([12], [12]), ([], []), ([14], [14]), ([], []), ([16], [16]), ([], []), ([18], [18]), ([1, 2, 0, 1, 2, 12, 13], [1, 2]), ([20, 0, 1, 2, 12, 13], [20]), ([21, 13, 0, 1, 2, 12, 13], [13, 21]), ([4, 5, 0, 1, 2, 3, 4, 5, 12, 13, 14, 15, 20, 21, 22], [4, 5]), ([23, 0, 1, 2, 3, 4, 5, 12, 13, 14, 15, 20, 21, 22], [23]), ([24, 15, 22, 0, 1, 2, 3, 4, 5, 12, 13, 14, 15, 20, 21, 22], [15, 24]), ([7, 8, 0, 1, 2, 3, 4, 5, 6, 7, 8, 12, 13, 14, 15, 16, 17, 20, 21, 22, 23, 24, 25], [7, 8]), ([26, 0, 1, 2, 3, 4, 5, 6, 7, 8, 12, 13, 14, 15, 16, 17, 20, 21, 22, 23, 24, 25], [26]), ([27, 17, 25, 0, 1, 2, 3, 4, 5, 6, 7, 8, 12, 13, 14, 15, 16, 17, 20, 21, 22, 23, 24, 25], [17, 27]), ([10, 11, 0, 1, 2, 3, 4, 5, 6, 7, 8, 9, 10, 11, 12, 13, 14, 15, 16, 17, 18, 19, 20, 21, 22, 23, 24, 25, 26, 27, 28], [10, 11]), ([29, 0, 1, 2, 3, 4, 5, 6, 7, 8, 9, 10, 11, 12, 13, 14, 15, 16, 17, 18, 19, 20, 21, 22, 23, 24, 25, 26, 27, 28], [29]), ([30, 19, 28, 0, 1, 2, 3, 4, 5, 6, 7, 8, 9, 10, 11, 12, 13, 14, 15, 16, 17, 18, 19, 20, 21, 22, 23, 24, 25, 26, 27, 28], [19, 30])])
def divided.B7 : List Nat := [0, 1, 0, 0, 8, 0, 0, 64, 0, 0, 512, 0, 0, 4096, 0, 16384, 0, 65536, 0, 262144, 12295, 1060871, 3158023, 7401535, 15790143, 32567359, 66318847, 133427711, 267645439, 536870911, 1073741823, 2147483647]
theorem divided.tab7 : rtab .any (opsOf Try.f7 7) = divided.T7 := by kernel_rfl
theorem divided.bits7 : waitsOk divided.T7.2 divided.B7 = true := by kernel_rfl
def divided.T14 : Bool × List (List Nat × List Nat) := (true, [([], []), ([0], [0]), ([], []), ([2], [2]), ([], []), ([4], [4]), ([3, 5], [3, 5]), ([], []), ([6, 7], [6, 7]), ([], []), ([8, 9], [8, 9]), ([1, 10], [1, 10]), ([], []), ([12], [12]), ([], []), ([14], [14]), ([], []), ([16], [16]), ([15, 17], [15, 17]), ([], []), ([18, 19], [18, 19]), ([], []), ([20, 21], [20, 21]), ([13, 22], [13, 22]), ([11, 0, 1, 2, 3, 4, 5, 6, 7, 8, 9, 10, 11], [11]), ([23, 24, 0, 1, 2, 3, 4, 5, 6, 7, 8, 9, 10, 11, 12, 13, 14, 15, 16, 17, 18, 19, 20, 21, 22, 23, 24], [23])])
def divided.B14 : List Nat := [0, 1, 0, 4, 0, 16, 60, 0, 252, 0, 1020, 2047, 0, 4096, 0, 16384, 0, 65536, 245760, 0, 1032192, 0, 4177920, 8384512, 4095, 33554431]
theorem divided.tab14 : rtab .any (opsOf Try.f7 14) = divided.T14 := by kernel_rfl
theorem divided.bits14 : waitsOk divided.T14.2 divided.B14 = true := by kernel_rfl
def divided.T15 : Bool × List (List Nat × List Nat) := (true, [([], []), ([0], [0]), ([], []), ([], []), ([3], [3]), ([], []), ([], []), ([], []), ([1, 2, 0, 1, 2, 6], [1, 2]), ([8, 0, 1, 2, 6], [8]), ([9, 6, 0, 1, 2, 6], [6, 9]), ([4, 5, 0, 1, 2, 3, 4, 5, 6, 7, 8, 9, 10], [4, 5]), ([11, 0, 1, 2, 3, 4, 5, 6, 7, 8, 9, 10], [11]), ([12, 7, 10, 0, 1, 2, 3, 4, 5, 6, 7, 8, 9, 10], [7, 12])])
def divided.B15 : List Nat := [0, 1, 0, 0, 8, 0, 0, 0, 71, 327, 839, 2047, 4095, 8191]
theorem divided.tab15 : rtab .any (opsOf Try.f7 15) = divided.T15 := by kernel_rfl
theorem divided.bits15 : waitsOk divided.T15.2 divided.B15 = true := by kernel_rfl
set_option maxHeartbeats 8000000 in
set_option maxRecDepth 100000 in
theorem hillDivided_c (a0 : Rv) (a1 : Int) (a2 : Int) (a3 : Int) (w : World) (h0 : a0.In w) (h1 : (Lit.int .u8 a1).wf = true) (h2 : (Lit.int .u8 a2).wf = true) (h3 : (Lit.int .u8 a3).wf = true) :
    Calls Try.prog 7 #[.agg a0.cells, .int .u8 a1, .int .u8 a2, .int .u8 a3] w fun e w' => e = .returned (.bool true) ∧ Below w.heap.size w w' := by
  have HI := Aside0.mk h0
  have HB := Aside0.mk (b1 w (.cells a0.cells 27))
  have HBX := Aside0.mk (blk_new w (.cells a0.cells 27))
  have l0 := h0.r0.2.1
  have l1 := h0.r1.2.1
  have l2 := h0.r2.2.1
  have l3 := h0.r3.2.1
  clear h0
  simp only [Rv.cells] at *
  by_cases hth : a0.rdy = true
  rotate_left
  · have HT : Aside0 (a0.rdy = false) := ⟨by simpa using hth⟩
    clear hth
    go_enter Try.func7, Try.ntmps7
    have d0 := (blk_cell HBX.out 0).trans rfl
    have d1 := (blk_cell HBX.out 1).trans rfl
    have d2 := (blk_cell HBX.out 2).trans rfl
    have d3 := (blk_cell HBX.out 3).trans rfl
    go_wp2_with fail
    refine (ready_c a0 _ (HI.out.below HB.out)).mono ?_
    rintro e w1_ ⟨rfl, hb_⟩
    replace HB := Aside0.mk (bt HB.out hb_)
    replace HBX := Aside0.mk (blk_below HBX.out hb_)
    clear d0 d1 d2 d3
    clear hb_
    have d0 := (blk_cell HBX.out 0).trans rfl
    have d1 := (blk_cell HBX.out 1).trans rfl
    have d2 := (blk_cell HBX.out 2).trans rfl
    have d3 := (blk_cell HBX.out 3).trans rfl
    rw [HT.out]
    go_wp2_with fail
    refine (awake_c _).mono ?_
    rintro e w2_ ⟨rfl, hb_⟩
    replace HB := Aside0.mk (bt HB.out hb_)
    replace HBX := Aside0.mk (blk_below HBX.out hb_)
    clear d0 d1 d2 d3
    clear hb_
    go_wp2_with fail
    go_ret
    exact ⟨ret_bool rfl, HB.out⟩
  have HT := Aside0.mk hth
  have HF := Aside0.mk (rdy_of hth).1
  have HC := Aside0.mk (rdy_of hth).2.1
  have HLEN := Aside0.mk (rdy_of hth).2.2
  clear hth
  obtain ⟨hs2, hs6, hr6, hc1, hc4, hu1, hu12⟩ := HLEN.out
  go_enter Try.func7, Try.ntmps7
  have d0 := (blk_cell HBX.out 0).trans rfl
  have d1 := (blk_cell HBX.out 1).trans rfl
  have d2 := (blk_cell HBX.out 2).trans rfl
  have d3 := (blk_cell HBX.out 3).trans rfl
  go_wp2_with fail
  refine (ready_c a0 _ (HI.out.below HB.out)).mono ?_
  rintro e w3_ ⟨rfl, hb_⟩
  replace HB := Aside0.mk (bt HB.out hb_)
  replace HBX := Aside0.mk (blk_below HBX.out hb_)
  clear d0 d1 d2 d3
  clear hb_
  have d0 := (blk_cell HBX.out 0).trans rfl
  have d1 := (blk_cell HBX.out 1).trans rfl
  have d2 := (blk_cell HBX.out 2).trans rfl
  have d3 := (blk_cell HBX.out 3).trans rfl
  rw [HT.out]
  by_cases hz : a0.ri.length = 0
  · have t0 : ((a0.ri.length : Int) == 0) = true := by simp [hz]
    clear hz
    go_wp2_with fail
    refine (awake_c _).mono ?_
    rintro e w4_ ⟨rfl, hb_⟩
    replace HB := Aside0.mk (bt HB.out hb_)
    replace HBX := Aside0.mk (blk_below HBX.out hb_)
    clear d0 d1 d2 d3
    clear hb_
    go_wp2_with fail
    go_ret
    exact ⟨ret_bool rfl, HB.out⟩
  by_cases hy : a0.ri.length = 6
  · have t0 : ((a0.ri.length : Int) == 0) = false := by simp [hz]
    have t1 : ((a0.ri.length : Int) == 6) = true := by simp [hy]
    clear hz hy
    go_wp2_with fail
    refine (awake_c _).mono ?_
    rintro e w4_ ⟨rfl, hb_⟩
    replace HB := Aside0.mk (bt HB.out hb_)
    replace HBX := Aside0.mk (blk_below HBX.out hb_)
    clear d0 d1 d2 d3
    clear hb_
    go_wp2_with fail
    go_ret
    exact ⟨ret_bool rfl, HB.out⟩
  have t0 : ((a0.ri.length : Int) == 0) = false := by simp [hz]
  have t1 : ((a0.ri.length : Int) == 6) = false := by simp; omega
  have hr1 : 1 ≤ a0.ri.length := by omega
  have hr5 : a0.ri.length ≤ 5 := by omega
  clear hz hy hr6
  go_wp2_with fail
  clear t0 t1
  have HCC := Aside0.mk (cases_few HC.out)
  have q2 := u8_bd h2
  have q3 := u8_bd h3
  refine (pair_c a0 a1 _ hs2 (by omega) h1).mono ?_
  rintro e w4_ ⟨rfl, hb_⟩
  replace HB := Aside0.mk (bt HB.out hb_)
  replace HBX := Aside0.mk (blk_below HBX.out hb_)
  clear d0 d1 d2 d3
  clear hb_
  have d0 := (blk_cell HBX.out 0).trans rfl
  have d1 := (blk_cell HBX.out 1).trans rfl
  have d2 := (blk_cell HBX.out 2).trans rfl
  have d3 := (blk_cell HBX.out 3).trans rfl
  have HP := Aside0.mk (pair_bd (n := (a0.st.length : Int)) (q := a1) (by omega) (u8_bd h1).1)
  generalize pairA a0.st.length a1 = pa at *
  generalize pairB a0.st.length a1 = pb at *
  go_upto_region 5 with (fail)
  have HK := Aside0.mk (mod_bd (q := a2) hr1)
  generalize a2 % (a0.ri.length : Int) = ci at *
  clear q2
  have ci0 := HK.out.1
  have ci1 := HK.out.2
  obtain ⟨ad, ea_, y0, y1, y2, y3, y4, y5⟩ := at_T55 (Kd.C_below HI.out.r1 HB.out) ci ci0 ci1
  have HEA := Aside0.mk ea_
  rw [ea_] at d1
  clear ea_
  generalize hsw : rd_T55 a0.ri ci = sw at *
  have HSW := Aside0.mk hsw
  clear hsw
  go_upto_region 6 with (first | ((with_reducible refine gate_dst (N := 12) rfl ?_); refine box_event ?hg (N := 12) ?hd (cs := #[.int .i64 0, .int .i64 0, .int .i64 0, .int .i64 0, .int .i64 0, .int .i64 0]) (t := 55) ?hr ?_; (case hd => rfl); (case hg => rfl); (case hr => first | (go_simp; done) | (go_simp; rfl)); intro gw hg_ w5_ hbox_ hb_; have HGW := Aside0.mk (show w.heap.size < gw from by rw [hg_]; exact blk_lt HBX.out); replace HB := Aside0.mk (bt HB.out hb_); replace HBX := Aside0.mk (blk_below HBX.out hb_); have HBZ := Aside0.mk hbox_; clear hbox_ hb_ hg_) | ((with_reducible refine gate_st (p := 12) rfl ?_); have c0 := (blk_cell (HBZ.out) 0).trans rfl; have f0 := blk_frozen (HBZ.out) 0; have c1 := (blk_cell (blk_set (HBZ.out) 0 (.int .i64 sw.f0)) 1).trans rfl; have f1 := blk_frozen (blk_set (HBZ.out) 0 (.int .i64 sw.f0)) 1; have c2 := (blk_cell (blk_set (blk_set (HBZ.out) 0 (.int .i64 sw.f0)) 1 (.int .i64 sw.f1)) 2).trans rfl; have f2 := blk_frozen (blk_set (blk_set (HBZ.out) 0 (.int .i64 sw.f0)) 1 (.int .i64 sw.f1)) 2; have c3 := (blk_cell (blk_set (blk_set (blk_set (HBZ.out) 0 (.int .i64 sw.f0)) 1 (.int .i64 sw.f1)) 2 (.int .i64 sw.f2)) 3).trans rfl; have f3 := blk_frozen (blk_set (blk_set (blk_set (HBZ.out) 0 (.int .i64 sw.f0)) 1 (.int .i64 sw.f1)) 2 (.int .i64 sw.f2)) 3; have c4 := (blk_cell (blk_set (blk_set (blk_set (blk_set (HBZ.out) 0 (.int .i64 sw.f0)) 1 (.int .i64 sw.f1)) 2 (.int .i64 sw.f2)) 3 (.int .i64 sw.f3)) 4).trans rfl; have f4 := blk_frozen (blk_set (blk_set (blk_set (blk_set (HBZ.out) 0 (.int .i64 sw.f0)) 1 (.int .i64 sw.f1)) 2 (.int .i64 sw.f2)) 3 (.int .i64 sw.f3)) 4; have c5 := (blk_cell (blk_set (blk_set (blk_set (blk_set (blk_set (HBZ.out) 0 (.int .i64 sw.f0)) 1 (.int .i64 sw.f1)) 2 (.int .i64 sw.f2)) 3 (.int .i64 sw.f3)) 4 (.int .i64 sw.f4)) 5).trans rfl; have f5 := blk_frozen (blk_set (blk_set (blk_set (blk_set (blk_set (HBZ.out) 0 (.int .i64 sw.f0)) 1 (.int .i64 sw.f1)) 2 (.int .i64 sw.f2)) 3 (.int .i64 sw.f3)) 4 (.int .i64 sw.f4)) 5; refine put_ev (p := 12) (w1 := ((((((w5_.setCell ⟨gw, 0, none⟩ (.int .i64 sw.f0)).setCell ⟨gw, 1, none⟩ (.int .i64 sw.f1)).setCell ⟨gw, 2, none⟩ (.int .i64 sw.f2)).setCell ⟨gw, 3, none⟩ (.int .i64 sw.f3)).setCell ⟨gw, 4, none⟩ (.int .i64 sw.f4)).setCell ⟨gw, 5, none⟩ (.int .i64 sw.f5))) (fun x_ => Below w.heap.size w x_ ∧ x_.heap[w.heap.size]? = some (.cells #[.slice a0.A0 a0.st.length a0.c0, .slice a0.A1 a0.ri.length a0.c1, .slice a0.A2 a0.ca.length a0.c2, .slice a0.A3 a0.su.length a0.c3] 27 (0, 0)) ∧ x_.heap[gw]? = some (.cells #[.int .i64 sw.f0, .int .i64 sw.f1, .int .i64 sw.f2, .int .i64 sw.f3, .int .i64 sw.f4, .int .i64 sw.f5] 55 (0, 0))) rfl rfl rfl ?hr ?hF ?_; (case hr => first | (go_simp; done) | (go_simp; rfl)); (case hF => exact ⟨below_set (below_set (below_set (below_set (below_set (below_set (HB.out) (Nat.le_of_lt HGW.out)) (Nat.le_of_lt HGW.out)) (Nat.le_of_lt HGW.out)) (Nat.le_of_lt HGW.out)) (Nat.le_of_lt HGW.out)) (Nat.le_of_lt HGW.out), blk_far (p := ⟨gw, 5, none⟩) (blk_far (p := ⟨gw, 4, none⟩) (blk_far (p := ⟨gw, 3, none⟩) (blk_far (p := ⟨gw, 2, none⟩) (blk_far (p := ⟨gw, 1, none⟩) (blk_far (p := ⟨gw, 0, none⟩) (HBX.out) (show _ ≠ gw from Nat.ne_of_lt HGW.out) _) (show _ ≠ gw from Nat.ne_of_lt HGW.out) _) (show _ ≠ gw from Nat.ne_of_lt HGW.out) _) (show _ ≠ gw from Nat.ne_of_lt HGW.out) _) (show _ ≠ gw from Nat.ne_of_lt HGW.out) _) (show _ ≠ gw from Nat.ne_of_lt HGW.out) _, blk_set (blk_set (blk_set (blk_set (blk_set (blk_set (HBZ.out) 0 (.int .i64 sw.f0)) 1 (.int .i64 sw.f1)) 2 (.int .i64 sw.f2)) 3 (.int .i64 sw.f3)) 4 (.int .i64 sw.f4)) 5 (.int .i64 sw.f5)⟩); clear c0 f0 c1 f1 c2 f2 c3 f3 c4 f4 c5 f5 HBZ HB HBX; rintro w6_ ⟨k0_, k1_, k2_⟩; have HB := Aside0.mk k0_; have HBX := Aside0.mk k1_; have HBV := Aside0.mk k2_; clear k0_ k1_ k2_))
  clear y0 y1 y2 y3 y4 y5 d0 d1 d2 d3
  have hx_ := HBX.out
  clear hx_
  refine start_ (n := 8) (S := fun w' => True) (ds := []) #[false, false, false, false, false, false, false, false] (by kernel_rfl) rfl rfl trivial (fun hHeld => ?_)
  refine with_tabW divided.tab6 divided.bits6 (fun HT_ HW_ => ?_)
  have HBW := Aside0.mk (below_drew (Below.refl w6_.heap.size w6_))
  generalize w6_.drew = W1 at *
  refine inv_at [0, 1, 2, 3, 4, 5, 6, 7] (fun a0_ b a w' => ∃ (X1 : Rv) (lo1 : Nat) (hi1 : Nat) (X2 : Rv) (lo2 : Nat) (hi2 : Nat) (g1 : Nat) (g2 : Nat) (m1_ : Value) (m3_ : Value) (m4_ : Value) (m5_ : Value), a = putSel a0_ b [(0, 62, .agg #[.slice a0.A0 a0.st.length a0.c0, .slice a0.A1 a0.ri.length a0.c1, .slice a0.A2 a0.ca.length a0.c2, .slice a0.A3 a0.su.length a0.c3]), (1, 63, m1_), (2, 64, .agg #[.slice a0.A0 a0.st.length a0.c0, .slice a0.A1 a0.ri.length a0.c1, .slice a0.A2 a0.ca.length a0.c2, .slice a0.A3 a0.su.length a0.c3]), (3, 65, m3_), (4, 13, m4_), (5, 14, m5_)] ∧ (Below w6_.heap.size w6_ w') ∧ (b 4 = true → w6_.heap.size ≤ g1 ∧ ∃ u0 u1 u2 u3 : Value, w'.heap[g1]? = some (.cells #[u0, u1, u2, u3] 27 (0, 0))) ∧ (b 5 = true → w6_.heap.size ≤ g2 ∧ ∃ u0 u1 u2 u3 : Value, w'.heap[g2]? = some (.cells #[u0, u1, u2, u3] 27 (0, 0))) ∧ (b 4 = true → b 5 = true → g1 ≠ g2) ∧ (b 6 = true → w'.heap[g1]? = some (.cells #[.slice X1.A0 X1.st.length X1.c0, .slice X1.A1 X1.ri.length X1.c1, .slice X1.A2 X1.ca.length X1.c2, .slice X1.A3 X1.su.length X1.c3] 27 (0, 0))) ∧ (b 7 = true → w'.heap[g2]? = some (.cells #[.slice X2.A0 X2.st.length X2.c0, .slice X2.A1 X2.ri.length X2.c1, .slice X2.A2 X2.ca.length X2.c2, .slice X2.A3 X2.su.length X2.c3] 27 (0, 0))) ∧ (b 1 = true → New a0 X1 lo1 hi1 w.heap.size w6_ w') ∧ (b 3 = true → New a0 X2 lo2 hi2 w.heap.size w6_ w') ∧ (b 1 = true → b 3 = true → hi1 ≤ lo2) ∧ (b 1 = true → (m1_ : Value) = .agg #[.slice X1.A0 X1.st.length X1.c0, .slice X1.A1 X1.ri.length X1.c1, .slice X1.A2 X1.ca.length X1.c2, .slice X1.A3 X1.su.length X1.c3]) ∧ (b 3 = true → (m3_ : Value) = .agg #[.slice X2.A0 X2.st.length X2.c0, .slice X2.A1 X2.ri.length X2.c1, .slice X2.A2 X2.ca.length X2.c2, .slice X2.A3 X2.su.length X2.c3]) ∧ (b 4 = true → (m4_ : Value) = .pointer (some ⟨g1, 0, none⟩)) ∧ (b 5 = true → (m5_ : Value) = .pointer (some ⟨g2, 0, none⟩))) HT_.out HW_.out (by kernel_rfl) (by kernel_rfl) ?_ ?_ ?_
  · exact ⟨a0, 0, 0, a0, 0, 0, 0, 0, .bool false, .bool false, .bool false, .bool false, by simp only [putSel, Bool.false_eq_true, if_false], HBW.out, fun h_ => absurd h_ (by decide), fun h_ => absurd h_ (by decide), fun h_ => absurd h_ (by decide), fun h_ => absurd h_ (by decide), fun h_ => absurd h_ (by decide), fun h_ => absurd h_ (by decide), fun h_ => absurd h_ (by decide), fun h_ => absurd h_ (by decide), fun h_ => absurd h_ (by decide), fun h_ => absurd h_ (by decide), fun h_ => absurd h_ (by decide), fun h_ => absurd h_ (by decide)⟩
  · skip
    clear HBW
    refine steps_cons ?_ ?_
    · rintro b a w' ⟨X1, lo1, hi1, X2, lo2, hi2, g1, g2, m1_, m3_, m4_, m5_, ha, Q_HBW, Q_Fg1, Q_Fg2, Q_Ng1g2, Q_Sg1, Q_Sg2, Q_NW1, Q_NW2, Q_OR12, Q_X1_, Q_X3_, Q_X4_, Q_X5_⟩ hb_ hon hoff
      refine ⟨_, rfl, fun K hK => ?_⟩
      have e4 : a.tmps[4]? = some (.pointer (some ⟨w.heap.size, 0, none⟩)) := by rw [ha]; exact (putSel_off rfl).trans rfl
      replace ha := Aside0.mk ha
      have HBW := Aside0.mk Q_HBW
      have k0_ := (blk_cell (blk_below HBX.out HBW.out) 0).trans rfl
      have k1_ := (blk_cell (blk_below HBX.out HBW.out) 1).trans rfl
      have k2_ := (blk_cell (blk_below HBX.out HBW.out) 2).trans rfl
      have k3_ := (blk_cell (blk_below HBX.out HBW.out) 3).trans rfl
      refine value_ (w1 := w') (v := .agg #[.slice a0.A0 a0.st.length a0.c0, .slice a0.A1 a0.ri.length a0.c1, .slice a0.A2 a0.ca.length a0.c2, .slice a0.A3 a0.su.length a0.c3]) (by rfl) rfl ?_ ?_
      · go_simp
        (try simp only [i64_w])
        try rfl
      refine hK.out _ _ ⟨X1, lo1, hi1, X2, lo2, hi2, g1, g2, m1_, m3_, m4_, m5_, (by rw [ha.out]; exact putSel_upk 0 hb_ rfl rfl rfl), Q_HBW, Q_Fg1, Q_Fg2, Q_Ng1g2, fun h0_ => absurd ((hoff 6 (by kernel_rfl)).symm.trans h0_) (by decide), fun h0_ => absurd ((hoff 7 (by kernel_rfl)).symm.trans h0_) (by decide), fun h0_ => absurd ((hoff 1 (by kernel_rfl)).symm.trans h0_) (by decide), fun h0_ => absurd ((hoff 3 (by kernel_rfl)).symm.trans h0_) (by decide), fun h0_ _ => absurd ((hoff 1 (by kernel_rfl)).symm.trans h0_) (by decide), fun h0_ => absurd ((hoff 1 (by kernel_rfl)).symm.trans h0_) (by decide), fun h0_ => absurd ((hoff 3 (by kernel_rfl)).symm.trans h0_) (by decide), Q_X4_, Q_X5_⟩
    refine steps_cons ?_ ?_
    · rintro b a w' ⟨X1, lo1, hi1, X2, lo2, hi2, g1, g2, m1_, m3_, m4_, m5_, ha, Q_HBW, Q_Fg1, Q_Fg2, Q_Ng1g2, Q_Sg1, Q_Sg2, Q_NW1, Q_NW2, Q_OR12, Q_X1_, Q_X3_, Q_X4_, Q_X5_⟩ hb_ hon hoff
      refine ⟨_, rfl, fun K hK => ?_⟩
      have e62 : a.tmps[62]? = some (.agg #[.slice a0.A0 a0.st.length a0.c0, .slice a0.A1 a0.ri.length a0.c1, .slice a0.A2 a0.ca.length a0.c2, .slice a0.A3 a0.su.length a0.c3]) := by rw [ha]; exact putSel_on (e := (0, 62, .agg #[.slice a0.A0 a0.st.length a0.c0, .slice a0.A1 a0.ri.length a0.c1, .slice a0.A2 a0.ca.length a0.c2, .slice a0.A3 a0.su.length a0.c3])) 0 rfl rfl (hon 0 (by kernel_rfl)) rfl
      replace ha := Aside0.mk ha
      have HBW := Aside0.mk Q_HBW
      refine call_ 32 #[.agg #[.slice a0.A0 a0.st.length a0.c0, .slice a0.A1 a0.ri.length a0.c1, .slice a0.A2 a0.ca.length a0.c2, .slice a0.A3 a0.su.length a0.c3]] (by rfl) rfl (by go_simp) ?_
      refine (copied_v a0 w' (HI.out.below (bt HB.out HBW.out)) (by omega) (by omega) (by omega) HCC.out (by omega)).mono ?_
      rintro e w2 ⟨B0, e0_, B1, e1_, B2, e2_, B3, e3_, rfl, hOw, hbb⟩
      refine ⟨_, rfl, ?_⟩
      refine hK.out _ _ ⟨(Rv.mk a0.st a0.ri a0.ca a0.su B0 B1 B2 B3 e0_ e1_ e2_ e3_), w'.heap.size, w2.heap.size, X2, lo2, hi2, g1, g2, (.agg #[.slice (Rv.mk a0.st a0.ri a0.ca a0.su B0 B1 B2 B3 e0_ e1_ e2_ e3_).A0 (Rv.mk a0.st a0.ri a0.ca a0.su B0 B1 B2 B3 e0_ e1_ e2_ e3_).st.length (Rv.mk a0.st a0.ri a0.ca a0.su B0 B1 B2 B3 e0_ e1_ e2_ e3_).c0, .slice (Rv.mk a0.st a0.ri a0.ca a0.su B0 B1 B2 B3 e0_ e1_ e2_ e3_).A1 (Rv.mk a0.st a0.ri a0.ca a0.su B0 B1 B2 B3 e0_ e1_ e2_ e3_).ri.length (Rv.mk a0.st a0.ri a0.ca a0.su B0 B1 B2 B3 e0_ e1_ e2_ e3_).c1, .slice (Rv.mk a0.st a0.ri a0.ca a0.su B0 B1 B2 B3 e0_ e1_ e2_ e3_).A2 (Rv.mk a0.st a0.ri a0.ca a0.su B0 B1 B2 B3 e0_ e1_ e2_ e3_).ca.length (Rv.mk a0.st a0.ri a0.ca a0.su B0 B1 B2 B3 e0_ e1_ e2_ e3_).c2, .slice (Rv.mk a0.st a0.ri a0.ca a0.su B0 B1 B2 B3 e0_ e1_ e2_ e3_).A3 (Rv.mk a0.st a0.ri a0.ca a0.su B0 B1 B2 B3 e0_ e1_ e2_ e3_).su.length (Rv.mk a0.st a0.ri a0.ca a0.su B0 B1 B2 B3 e0_ e1_ e2_ e3_).c3]), m3_, m4_, m5_, (by rw [ha.out]; exact putSel_upk 1 hb_ rfl rfl rfl), bt HBW.out hbb, fun h0_ => ⟨(Q_Fg1 h0_).1, (fun ⟨u0, u1, u2, u3, h⟩ => ⟨u0, u1, u2, u3, blk_below h hbb⟩) (Q_Fg1 h0_).2⟩, fun h0_ => ⟨(Q_Fg2 h0_).1, (fun ⟨u0, u1, u2, u3, h⟩ => ⟨u0, u1, u2, u3, blk_below h hbb⟩) (Q_Fg2 h0_).2⟩, fun h0_ h1_ => (Q_Ng1g2 h0_ h1_), fun h0_ => absurd ((hoff 6 (by kernel_rfl)).symm.trans h0_) (by decide), fun h0_ => absurd ((hoff 7 (by kernel_rfl)).symm.trans h0_) (by decide), fun _ => New.mk_ hOw HBW.out.size (Nat.le_trans HB.out.size HBW.out.size), fun h0_ => absurd ((hoff 3 (by kernel_rfl)).symm.trans h0_) (by decide), fun _ h1_ => absurd ((hoff 3 (by kernel_rfl)).symm.trans h1_) (by decide), fun _ => rfl, fun h0_ => absurd ((hoff 3 (by kernel_rfl)).symm.trans h0_) (by decide), Q_X4_, Q_X5_⟩
    refine steps_cons ?_ ?_
    · rintro b a w' ⟨X1, lo1, hi1, X2, lo2, hi2, g1, g2, m1_, m3_, m4_, m5_, ha, Q_HBW, Q_Fg1, Q_Fg2, Q_Ng1g2, Q_Sg1, Q_Sg2, Q_NW1, Q_NW2, Q_OR12, Q_X1_, Q_X3_, Q_X4_, Q_X5_⟩ hb_ hon hoff
      refine ⟨_, rfl, fun K hK => ?_⟩
      have e4 : a.tmps[4]? = some (.pointer (some ⟨w.heap.size, 0, none⟩)) := by rw [ha]; exact (putSel_off rfl).trans rfl
      replace ha := Aside0.mk ha
      have HBW := Aside0.mk Q_HBW
      have k0_ := (blk_cell (blk_below HBX.out HBW.out) 0).trans rfl
      have k1_ := (blk_cell (blk_below HBX.out HBW.out) 1).trans rfl
      have k2_ := (blk_cell (blk_below HBX.out HBW.out) 2).trans rfl
      have k3_ := (blk_cell (blk_below HBX.out HBW.out) 3).trans rfl
      refine value_ (w1 := w') (v := .agg #[.slice a0.A0 a0.st.length a0.c0, .slice a0.A1 a0.ri.length a0.c1, .slice a0.A2 a0.ca.length a0.c2, .slice a0.A3 a0.su.length a0.c3]) (by rfl) rfl ?_ ?_
      · go_simp
        (try simp only [i64_w])
        try rfl
      refine hK.out _ _ ⟨X1, lo1, hi1, X2, lo2, hi2, g1, g2, m1_, m3_, m4_, m5_, (by rw [ha.out]; exact putSel_upk 2 hb_ rfl rfl rfl), Q_HBW, Q_Fg1, Q_Fg2, Q_Ng1g2, fun h0_ => absurd ((hoff 6 (by kernel_rfl)).symm.trans h0_) (by decide), fun h0_ => absurd ((hoff 7 (by kernel_rfl)).symm.trans h0_) (by decide), Q_NW1, fun h0_ => absurd ((hoff 3 (by kernel_rfl)).symm.trans h0_) (by decide), fun _ h1_ => absurd ((hoff 3 (by kernel_rfl)).symm.trans h1_) (by decide), Q_X1_, fun h0_ => absurd ((hoff 3 (by kernel_rfl)).symm.trans h0_) (by decide), Q_X4_, Q_X5_⟩
    refine steps_cons ?_ ?_
    · rintro b a w' ⟨X1, lo1, hi1, X2, lo2, hi2, g1, g2, m1_, m3_, m4_, m5_, ha, Q_HBW, Q_Fg1, Q_Fg2, Q_Ng1g2, Q_Sg1, Q_Sg2, Q_NW1, Q_NW2, Q_OR12, Q_X1_, Q_X3_, Q_X4_, Q_X5_⟩ hb_ hon hoff
      refine ⟨_, rfl, fun K hK => ?_⟩
      have e64 : a.tmps[64]? = some (.agg #[.slice a0.A0 a0.st.length a0.c0, .slice a0.A1 a0.ri.length a0.c1, .slice a0.A2 a0.ca.length a0.c2, .slice a0.A3 a0.su.length a0.c3]) := by rw [ha]; exact putSel_on (e := (2, 64, .agg #[.slice a0.A0 a0.st.length a0.c0, .slice a0.A1 a0.ri.length a0.c1, .slice a0.A2 a0.ca.length a0.c2, .slice a0.A3 a0.su.length a0.c3])) 2 rfl rfl (hon 2 (by kernel_rfl)) rfl
      replace ha := Aside0.mk ha
      have HBW := Aside0.mk Q_HBW
      have NW1 := Aside0.mk (Q_NW1 (hon 1 (by kernel_rfl)))
      refine call_ 32 #[.agg #[.slice a0.A0 a0.st.length a0.c0, .slice a0.A1 a0.ri.length a0.c1, .slice a0.A2 a0.ca.length a0.c2, .slice a0.A3 a0.su.length a0.c3]] (by rfl) rfl (by go_simp) ?_
      refine (copied_v a0 w' (HI.out.below (bt HB.out HBW.out)) (by omega) (by omega) (by omega) HCC.out (by omega)).mono ?_
      rintro e w2 ⟨B0, e0_, B1, e1_, B2, e2_, B3, e3_, rfl, hOw, hbb⟩
      refine ⟨_, rfl, ?_⟩
      refine hK.out _ _ ⟨X1, lo1, hi1, (Rv.mk a0.st a0.ri a0.ca a0.su B0 B1 B2 B3 e0_ e1_ e2_ e3_), w'.heap.size, w2.heap.size, g1, g2, m1_, (.agg #[.slice (Rv.mk a0.st a0.ri a0.ca a0.su B0 B1 B2 B3 e0_ e1_ e2_ e3_).A0 (Rv.mk a0.st a0.ri a0.ca a0.su B0 B1 B2 B3 e0_ e1_ e2_ e3_).st.length (Rv.mk a0.st a0.ri a0.ca a0.su B0 B1 B2 B3 e0_ e1_ e2_ e3_).c0, .slice (Rv.mk a0.st a0.ri a0.ca a0.su B0 B1 B2 B3 e0_ e1_ e2_ e3_).A1 (Rv.mk a0.st a0.ri a0.ca a0.su B0 B1 B2 B3 e0_ e1_ e2_ e3_).ri.length (Rv.mk a0.st a0.ri a0.ca a0.su B0 B1 B2 B3 e0_ e1_ e2_ e3_).c1, .slice (Rv.mk a0.st a0.ri a0.ca a0.su B0 B1 B2 B3 e0_ e1_ e2_ e3_).A2 (Rv.mk a0.st a0.ri a0.ca a0.su B0 B1 B2 B3 e0_ e1_ e2_ e3_).ca.length (Rv.mk a0.st a0.ri a0.ca a0.su B0 B1 B2 B3 e0_ e1_ e2_ e3_).c2, .slice (Rv.mk a0.st a0.ri a0.ca a0.su B0 B1 B2 B3 e0_ e1_ e2_ e3_).A3 (Rv.mk a0.st a0.ri a0.ca a0.su B0 B1 B2 B3 e0_ e1_ e2_ e3_).su.length (Rv.mk a0.st a0.ri a0.ca a0.su B0 B1 B2 B3 e0_ e1_ e2_ e3_).c3]), m4_, m5_, (by rw [ha.out]; exact putSel_upk 3 hb_ rfl rfl rfl), bt HBW.out hbb, fun h0_ => ⟨(Q_Fg1 h0_).1, (fun ⟨u0, u1, u2, u3, h⟩ => ⟨u0, u1, u2, u3, blk_below h hbb⟩) (Q_Fg1 h0_).2⟩, fun h0_ => ⟨(Q_Fg2 h0_).1, (fun ⟨u0, u1, u2, u3, h⟩ => ⟨u0, u1, u2, u3, blk_below h hbb⟩) (Q_Fg2 h0_).2⟩, fun h0_ h1_ => (Q_Ng1g2 h0_ h1_), fun h0_ => absurd ((hoff 6 (by kernel_rfl)).symm.trans h0_) (by decide), fun h0_ => absurd ((hoff 7 (by kernel_rfl)).symm.trans h0_) (by decide), fun _ => NW1.out.below hbb, fun _ => New.mk_ hOw HBW.out.size (Nat.le_trans HB.out.size HBW.out.size), fun _ _ => NW1.out.hi_, Q_X1_, fun _ => rfl, Q_X4_, Q_X5_⟩
    refine steps_cons ?_ ?_
    · rintro b a w' ⟨X1, lo1, hi1, X2, lo2, hi2, g1, g2, m1_, m3_, m4_, m5_, ha, Q_HBW, Q_Fg1, Q_Fg2, Q_Ng1g2, Q_Sg1, Q_Sg2, Q_NW1, Q_NW2, Q_OR12, Q_X1_, Q_X3_, Q_X4_, Q_X5_⟩ hb_ hon hoff
      refine ⟨_, rfl, fun K hK => ?_⟩
      replace ha := Aside0.mk ha
      have HBW := Aside0.mk Q_HBW
      refine value_ (w1 := w'.alloc (.cells #[.slice none 0 0, .slice none 0 0, .slice none 0 0, .slice none 0 0] 27)) (v := .pointer (some ⟨w'.heap.size, 0, none⟩)) (by rfl) rfl (by go_simp) ?_
      have hbb := b1 w' (.cells #[.slice none 0 0, .slice none 0 0, .slice none 0 0, .slice none 0 0] 27)
      have z_Ng1g2 := fun (h0_ : up b 4 4 = true) (h1_ : up b 4 5 = true) => (show w'.heap.size ≠ g2 from fun h => by obtain ⟨_, _, _, _, _, h2⟩ := Q_Fg2 h1_; exact absurd (blk_lt h2) (h ▸ Nat.lt_irrefl _))
      refine hK.out _ _ ⟨X1, lo1, hi1, X2, lo2, hi2, w'.heap.size, g2, m1_, m3_, (.pointer (some ⟨w'.heap.size, 0, none⟩)), m5_, (by rw [ha.out]; exact putSel_upk 4 hb_ rfl rfl rfl), bt HBW.out hbb, fun _ => ⟨HBW.out.size, _, _, _, _, blk_new _ _⟩, fun h0_ => ⟨(Q_Fg2 h0_).1, (fun ⟨u0, u1, u2, u3, h⟩ => ⟨u0, u1, u2, u3, blk_below h hbb⟩) (Q_Fg2 h0_).2⟩, z_Ng1g2, fun h0_ => absurd ((hoff 6 (by kernel_rfl)).symm.trans h0_) (by decide), fun h0_ => absurd ((hoff 7 (by kernel_rfl)).symm.trans h0_) (by decide), fun h0_ => (Q_NW1 h0_).below hbb, fun h0_ => (Q_NW2 h0_).below hbb, Q_OR12, Q_X1_, Q_X3_, fun _ => rfl, Q_X5_⟩
    refine steps_cons ?_ ?_
    · rintro b a w' ⟨X1, lo1, hi1, X2, lo2, hi2, g1, g2, m1_, m3_, m4_, m5_, ha, Q_HBW, Q_Fg1, Q_Fg2, Q_Ng1g2, Q_Sg1, Q_Sg2, Q_NW1, Q_NW2, Q_OR12, Q_X1_, Q_X3_, Q_X4_, Q_X5_⟩ hb_ hon hoff
      refine ⟨_, rfl, fun K hK => ?_⟩
      replace ha := Aside0.mk ha
      have HBW := Aside0.mk Q_HBW
      refine value_ (w1 := w'.alloc (.cells #[.slice none 0 0, .slice none 0 0, .slice none 0 0, .slice none 0 0] 27)) (v := .pointer (some ⟨w'.heap.size, 0, none⟩)) (by rfl) rfl (by go_simp) ?_
      have hbb := b1 w' (.cells #[.slice none 0 0, .slice none 0 0, .slice none 0 0, .slice none 0 0] 27)
      have z_Ng1g2 := fun (h0_ : up b 5 4 = true) (h1_ : up b 5 5 = true) => (show g1 ≠ w'.heap.size from fun h => by obtain ⟨_, _, _, _, _, h2⟩ := Q_Fg1 h0_; exact absurd (blk_lt h2) (h ▸ Nat.lt_irrefl _))
      refine hK.out _ _ ⟨X1, lo1, hi1, X2, lo2, hi2, g1, w'.heap.size, m1_, m3_, m4_, (.pointer (some ⟨w'.heap.size, 0, none⟩)), (by rw [ha.out]; exact putSel_upk 5 hb_ rfl rfl rfl), bt HBW.out hbb, fun h0_ => ⟨(Q_Fg1 h0_).1, (fun ⟨u0, u1, u2, u3, h⟩ => ⟨u0, u1, u2, u3, blk_below h hbb⟩) (Q_Fg1 h0_).2⟩, fun _ => ⟨HBW.out.size, _, _, _, _, blk_new _ _⟩, z_Ng1g2, fun h0_ => absurd ((hoff 6 (by kernel_rfl)).symm.trans h0_) (by decide), fun h0_ => absurd ((hoff 7 (by kernel_rfl)).symm.trans h0_) (by decide), fun h0_ => (Q_NW1 h0_).below hbb, fun h0_ => (Q_NW2 h0_).below hbb, Q_OR12, Q_X1_, Q_X3_, Q_X4_, fun _ => rfl⟩
    refine steps_cons ?_ ?_
    · rintro b a w' ⟨X1, lo1, hi1, X2, lo2, hi2, g1, g2, m1_, m3_, m4_, m5_, ha, Q_HBW, Q_Fg1, Q_Fg2, Q_Ng1g2, Q_Sg1, Q_Sg2, Q_NW1, Q_NW2, Q_OR12, Q_X1_, Q_X3_, Q_X4_, Q_X5_⟩ hb_ hon hoff
      refine ⟨_, rfl, fun K hK => ?_⟩
      have e13 : a.tmps[13]? = some (m4_) := by rw [ha]; exact putSel_on (e := (4, 13, m4_)) 4 rfl rfl (hon 4 (by kernel_rfl)) rfl
      rw [Q_X4_ (hon 4 (by kernel_rfl))] at e13
      have e63 : a.tmps[63]? = some (m1_) := by rw [ha]; exact putSel_on (e := (1, 63, m1_)) 1 rfl rfl (hon 1 (by kernel_rfl)) rfl
      rw [Q_X1_ (hon 1 (by kernel_rfl))] at e63
      replace ha := Aside0.mk ha
      have HBW := Aside0.mk Q_HBW
      have Fg1 := Aside0.mk (Q_Fg1 (hon 4 (by kernel_rfl)))
      have Fg2 := Aside0.mk (Q_Fg2 (hon 5 (by kernel_rfl)))
      have Ng1g2 := Aside0.mk (Q_Ng1g2 (hon 4 (by kernel_rfl)) (hon 5 (by kernel_rfl)))
      have NW1 := Aside0.mk (Q_NW1 (hon 1 (by kernel_rfl)))
      have NW2 := Aside0.mk (Q_NW2 (hon 3 (by kernel_rfl)))
      have OR12 := Aside0.mk (Q_OR12 (hon 1 (by kernel_rfl)) (hon 3 (by kernel_rfl)))
      obtain ⟨hgs_, u0, u1, u2, u3, gk⟩ := Fg1.out
      have c0 := (blk_cell (gk) 0).trans rfl
      have f0 := blk_frozen (gk) 0
      have c1 := (blk_cell (blk_set (gk) 0 (.slice X1.A0 X1.st.length X1.c0)) 1).trans rfl
      have f1 := blk_frozen (blk_set (gk) 0 (.slice X1.A0 X1.st.length X1.c0)) 1
      have c2 := (blk_cell (blk_set (blk_set (gk) 0 (.slice X1.A0 X1.st.length X1.c0)) 1 (.slice X1.A1 X1.ri.length X1.c1)) 2).trans rfl
      have f2 := blk_frozen (blk_set (blk_set (gk) 0 (.slice X1.A0 X1.st.length X1.c0)) 1 (.slice X1.A1 X1.ri.length X1.c1)) 2
      have c3 := (blk_cell (blk_set (blk_set (blk_set (gk) 0 (.slice X1.A0 X1.st.length X1.c0)) 1 (.slice X1.A1 X1.ri.length X1.c1)) 2 (.slice X1.A2 X1.ca.length X1.c2)) 3).trans rfl
      have f3 := blk_frozen (blk_set (blk_set (blk_set (gk) 0 (.slice X1.A0 X1.st.length X1.c0)) 1 (.slice X1.A1 X1.ri.length X1.c1)) 2 (.slice X1.A2 X1.ca.length X1.c2)) 3
      have nend := blk_set (blk_set (blk_set (blk_set (gk) 0 (.slice X1.A0 X1.st.length X1.c0)) 1 (.slice X1.A1 X1.ri.length X1.c1)) 2 (.slice X1.A2 X1.ca.length X1.c2)) 3 (.slice X1.A3 X1.su.length X1.c3)
      refine skip_ (w1 := ((((w'.setCell ⟨g1, 0, none⟩ (.slice X1.A0 X1.st.length X1.c0)).setCell ⟨g1, 1, none⟩ (.slice X1.A1 X1.ri.length X1.c1)).setCell ⟨g1, 2, none⟩ (.slice X1.A2 X1.ca.length X1.c2)).setCell ⟨g1, 3, none⟩ (.slice X1.A3 X1.su.length X1.c3))) (by rfl) rfl (by go_simp) ?_
      refine hK.out _ _ ⟨X1, lo1, hi1, X2, lo2, hi2, g1, g2, m1_, m3_, m4_, m5_, (by rw [ha.out]; exact putSel_none (v := undef) rfl), below_set (below_set (below_set (below_set (HBW.out) hgs_) hgs_) hgs_) hgs_, fun _ => ⟨hgs_, _, _, _, _, nend⟩, fun _ => ⟨Fg2.out.1, (fun ⟨u0, u1, u2, u3, h⟩ => ⟨u0, u1, u2, u3, blk_far (blk_far (blk_far (blk_far (h) Ng1g2.out.symm _) Ng1g2.out.symm _) Ng1g2.out.symm _) Ng1g2.out.symm _⟩) Fg2.out.2⟩, fun _ _ => Ng1g2.out, fun _ => nend, fun h0_ => absurd ((hoff 7 (by kernel_rfl)).symm.trans h0_) (by decide), fun _ => New.set27 (New.set27 (New.set27 (New.set27 (NW1.out) (gk) 0 (.slice X1.A0 X1.st.length X1.c0)) (blk_set (gk) 0 (.slice X1.A0 X1.st.length X1.c0)) 1 (.slice X1.A1 X1.ri.length X1.c1)) (blk_set (blk_set (gk) 0 (.slice X1.A0 X1.st.length X1.c0)) 1 (.slice X1.A1 X1.ri.length X1.c1)) 2 (.slice X1.A2 X1.ca.length X1.c2)) (blk_set (blk_set (blk_set (gk) 0 (.slice X1.A0 X1.st.length X1.c0)) 1 (.slice X1.A1 X1.ri.length X1.c1)) 2 (.slice X1.A2 X1.ca.length X1.c2)) 3 (.slice X1.A3 X1.su.length X1.c3), fun _ => New.set27 (New.set27 (New.set27 (New.set27 (NW2.out) (gk) 0 (.slice X1.A0 X1.st.length X1.c0)) (blk_set (gk) 0 (.slice X1.A0 X1.st.length X1.c0)) 1 (.slice X1.A1 X1.ri.length X1.c1)) (blk_set (blk_set (gk) 0 (.slice X1.A0 X1.st.length X1.c0)) 1 (.slice X1.A1 X1.ri.length X1.c1)) 2 (.slice X1.A2 X1.ca.length X1.c2)) (blk_set (blk_set (blk_set (gk) 0 (.slice X1.A0 X1.st.length X1.c0)) 1 (.slice X1.A1 X1.ri.length X1.c1)) 2 (.slice X1.A2 X1.ca.length X1.c2)) 3 (.slice X1.A3 X1.su.length X1.c3), Q_OR12, Q_X1_, Q_X3_, Q_X4_, Q_X5_⟩
    refine steps_cons ?_ ?_
    · rintro b a w' ⟨X1, lo1, hi1, X2, lo2, hi2, g1, g2, m1_, m3_, m4_, m5_, ha, Q_HBW, Q_Fg1, Q_Fg2, Q_Ng1g2, Q_Sg1, Q_Sg2, Q_NW1, Q_NW2, Q_OR12, Q_X1_, Q_X3_, Q_X4_, Q_X5_⟩ hb_ hon hoff
      refine ⟨_, rfl, fun K hK => ?_⟩
      have e14 : a.tmps[14]? = some (m5_) := by rw [ha]; exact putSel_on (e := (5, 14, m5_)) 5 rfl rfl (hon 5 (by kernel_rfl)) rfl
      rw [Q_X5_ (hon 5 (by kernel_rfl))] at e14
      have e65 : a.tmps[65]? = some (m3_) := by rw [ha]; exact putSel_on (e := (3, 65, m3_)) 3 rfl rfl (hon 3 (by kernel_rfl)) rfl
      rw [Q_X3_ (hon 3 (by kernel_rfl))] at e65
      replace ha := Aside0.mk ha
      have HBW := Aside0.mk Q_HBW
      have Fg1 := Aside0.mk (Q_Fg1 (hon 4 (by kernel_rfl)))
      have Fg2 := Aside0.mk (Q_Fg2 (hon 5 (by kernel_rfl)))
      have Ng1g2 := Aside0.mk (Q_Ng1g2 (hon 4 (by kernel_rfl)) (hon 5 (by kernel_rfl)))
      have Sg1 := Aside0.mk (Q_Sg1 (hon 6 (by kernel_rfl)))
      have NW1 := Aside0.mk (Q_NW1 (hon 1 (by kernel_rfl)))
      have NW2 := Aside0.mk (Q_NW2 (hon 3 (by kernel_rfl)))
      have OR12 := Aside0.mk (Q_OR12 (hon 1 (by kernel_rfl)) (hon 3 (by kernel_rfl)))
      obtain ⟨hgs_, u0, u1, u2, u3, gk⟩ := Fg2.out
      have c0 := (blk_cell (gk) 0).trans rfl
      have f0 := blk_frozen (gk) 0
      have c1 := (blk_cell (blk_set (gk) 0 (.slice X2.A0 X2.st.length X2.c0)) 1).trans rfl
      have f1 := blk_frozen (blk_set (gk) 0 (.slice X2.A0 X2.st.length X2.c0)) 1
      have c2 := (blk_cell (blk_set (blk_set (gk) 0 (.slice X2.A0 X2.st.length X2.c0)) 1 (.slice X2.A1 X2.ri.length X2.c1)) 2).trans rfl
      have f2 := blk_frozen (blk_set (blk_set (gk) 0 (.slice X2.A0 X2.st.length X2.c0)) 1 (.slice X2.A1 X2.ri.length X2.c1)) 2
      have c3 := (blk_cell (blk_set (blk_set (blk_set (gk) 0 (.slice X2.A0 X2.st.length X2.c0)) 1 (.slice X2.A1 X2.ri.length X2.c1)) 2 (.slice X2.A2 X2.ca.length X2.c2)) 3).trans rfl
      have f3 := blk_frozen (blk_set (blk_set (blk_set (gk) 0 (.slice X2.A0 X2.st.length X2.c0)) 1 (.slice X2.A1 X2.ri.length X2.c1)) 2 (.slice X2.A2 X2.ca.length X2.c2)) 3
      have nend := blk_set (blk_set (blk_set (blk_set (gk) 0 (.slice X2.A0 X2.st.length X2.c0)) 1 (.slice X2.A1 X2.ri.length X2.c1)) 2 (.slice X2.A2 X2.ca.length X2.c2)) 3 (.slice X2.A3 X2.su.length X2.c3)
      refine skip_ (w1 := ((((w'.setCell ⟨g2, 0, none⟩ (.slice X2.A0 X2.st.length X2.c0)).setCell ⟨g2, 1, none⟩ (.slice X2.A1 X2.ri.length X2.c1)).setCell ⟨g2, 2, none⟩ (.slice X2.A2 X2.ca.length X2.c2)).setCell ⟨g2, 3, none⟩ (.slice X2.A3 X2.su.length X2.c3))) (by rfl) rfl (by go_simp) ?_
      refine hK.out _ _ ⟨X1, lo1, hi1, X2, lo2, hi2, g1, g2, m1_, m3_, m4_, m5_, (by rw [ha.out]; exact putSel_none (v := undef) rfl), below_set (below_set (below_set (below_set (HBW.out) hgs_) hgs_) hgs_) hgs_, fun _ => ⟨Fg1.out.1, (fun ⟨u0, u1, u2, u3, h⟩ => ⟨u0, u1, u2, u3, blk_far (blk_far (blk_far (blk_far (h) Ng1g2.out _) Ng1g2.out _) Ng1g2.out _) Ng1g2.out _⟩) Fg1.out.2⟩, fun _ => ⟨hgs_, _, _, _, _, nend⟩, fun _ _ => Ng1g2.out, fun _ => blk_far (blk_far (blk_far (blk_far (Sg1.out) Ng1g2.out _) Ng1g2.out _) Ng1g2.out _) Ng1g2.out _, fun _ => nend, fun _ => New.set27 (New.set27 (New.set27 (New.set27 (NW1.out) (gk) 0 (.slice X2.A0 X2.st.length X2.c0)) (blk_set (gk) 0 (.slice X2.A0 X2.st.length X2.c0)) 1 (.slice X2.A1 X2.ri.length X2.c1)) (blk_set (blk_set (gk) 0 (.slice X2.A0 X2.st.length X2.c0)) 1 (.slice X2.A1 X2.ri.length X2.c1)) 2 (.slice X2.A2 X2.ca.length X2.c2)) (blk_set (blk_set (blk_set (gk) 0 (.slice X2.A0 X2.st.length X2.c0)) 1 (.slice X2.A1 X2.ri.length X2.c1)) 2 (.slice X2.A2 X2.ca.length X2.c2)) 3 (.slice X2.A3 X2.su.length X2.c3), fun _ => New.set27 (New.set27 (New.set27 (New.set27 (NW2.out) (gk) 0 (.slice X2.A0 X2.st.length X2.c0)) (blk_set (gk) 0 (.slice X2.A0 X2.st.length X2.c0)) 1 (.slice X2.A1 X2.ri.length X2.c1)) (blk_set (blk_set (gk) 0 (.slice X2.A0 X2.st.length X2.c0)) 1 (.slice X2.A1 X2.ri.length X2.c1)) 2 (.slice X2.A2 X2.ca.length X2.c2)) (blk_set (blk_set (blk_set (gk) 0 (.slice X2.A0 X2.st.length X2.c0)) 1 (.slice X2.A1 X2.ri.length X2.c1)) 2 (.slice X2.A2 X2.ca.length X2.c2)) 3 (.slice X2.A3 X2.su.length X2.c3), Q_OR12, Q_X1_, Q_X3_, Q_X4_, Q_X5_⟩
    exact steps_nil
  · rintro b a w' hall ⟨X1, lo1, hi1, X2, lo2, hi2, g1, g2, m1_, m3_, m4_, m5_, ha, Q_HBW, Q_Fg1, Q_Fg2, Q_Ng1g2, Q_Sg1, Q_Sg2, Q_NW1, Q_NW2, Q_OR12, Q_X1_, Q_X3_, Q_X4_, Q_X5_⟩
    clear HBW
    have hb0_ := hall 0 (by kernel_rfl)
    have hb1_ := hall 1 (by kernel_rfl)
    have hb2_ := hall 2 (by kernel_rfl)
    have hb3_ := hall 3 (by kernel_rfl)
    have hb4_ := hall 4 (by kernel_rfl)
    have hb5_ := hall 5 (by kernel_rfl)
    have hb6_ := hall 6 (by kernel_rfl)
    have hb7_ := hall 7 (by kernel_rfl)
    subst ha
    obtain rfl := Q_X1_ hb1_
    obtain rfl := Q_X3_ hb3_
    obtain rfl := Q_X4_ hb4_
    obtain rfl := Q_X5_ hb5_
    simp only [putSel, hb0_, hb1_, hb2_, hb3_, hb4_, hb5_, hb6_, hb7_, if_true, Act.put, List.setIfInBounds_toArray, List.set_cons_zero, List.set_cons_succ]
    have HBW := Aside0.mk Q_HBW
    clear Q_HBW
    have Fg1 := Aside0.mk (Q_Fg1 hb4_)
    clear Q_Fg1
    have Fg2 := Aside0.mk (Q_Fg2 hb5_)
    clear Q_Fg2
    have Ng1g2 := Aside0.mk (Q_Ng1g2 hb4_ hb5_)
    clear Q_Ng1g2
    have Sg1 := Aside0.mk (Q_Sg1 hb6_)
    clear Q_Sg1
    have Sg2 := Aside0.mk (Q_Sg2 hb7_)
    clear Q_Sg2
    have NW1 := Aside0.mk (Q_NW1 hb1_)
    clear Q_NW1
    have NW2 := Aside0.mk (Q_NW2 hb3_)
    clear Q_NW2
    have OR12 := Aside0.mk (Q_OR12 hb1_ hb3_)
    clear Q_OR12
    clear hall hb0_ hb1_ hb2_ hb3_ hb4_ hb5_ hb6_ hb7_
    have hgw := blk_lt HBV.out
    have hwx := HGW.out
    replace HB := Aside0.mk (bt HB.out HBW.out)
    replace HBX := Aside0.mk (blk_below HBX.out HBW.out)
    replace HBV := Aside0.mk (blk_below HBV.out HBW.out)
    have CQ1 := Aside0.mk (Cq.mk Sg1.out NW1.out.own)
    have HG1 := Aside0.mk (show w.heap.size < g1 ∧ gw < g1 from ⟨Nat.lt_trans hwx (Nat.lt_of_lt_of_le hgw Fg1.out.1), Nat.lt_of_lt_of_le hgw Fg1.out.1⟩)
    have HE1 := Aside0.mk (And.intro NW1.out.st (And.intro NW1.out.ri (And.intro NW1.out.ca NW1.out.su)))
    have CQ2 := Aside0.mk (Cq.mk Sg2.out NW2.out.own)
    have HG2 := Aside0.mk (show w.heap.size < g2 ∧ gw < g2 from ⟨Nat.lt_trans hwx (Nat.lt_of_lt_of_le hgw Fg2.out.1), Nat.lt_of_lt_of_le hgw Fg2.out.1⟩)
    have HE2 := Aside0.mk (And.intro NW2.out.st (And.intro NW2.out.ri (And.intro NW2.out.ca NW2.out.su)))
    have HIV := Aside0.mk (show hi1 ≤ lo2 ∧ gw < lo2 ∧ hi2 ≤ w'.heap.size ∧ g1 ≠ g2 ∧ gw < lo1 from ⟨OR12.out, Nat.lt_of_lt_of_le hgw NW2.out.lo_, NW2.out.hi_, Ng1g2.out, Nat.lt_of_lt_of_le hgw NW1.out.lo_⟩)
    clear NW1 NW2 Sg1 Sg2 Fg1 Fg2 OR12 Ng1g2 HBW hgw hwx
    go_upto_region 7 with (fail)
    obtain ⟨we, rfl⟩ : ∃ W_ : World, W_ = w' := ⟨_, rfl⟩
    have HGL2 := Aside0.mk HIV.out.2.1
    have HGL1 := Aside0.mk HIV.out.2.2.2.2
    have hix : ci < X1.ri.length := by rw [HE1.out.2.1]; exact ci1
    obtain ⟨q, hA1, hqb, hqo, hcl, _, _⟩ := CQ1.out.own.ri ci0 hix
    have HN := Aside0.mk (show w.heap.size ≠ q ∧ gw ≠ q ∧ g1 ≠ q from by obtain ⟨cells, hc⟩ := hcl; refine ⟨blk_ne HBX.out hc (by decide), ?_, blk_ne CQ1.out.box hc (by decide)⟩; have h1 := hqo.1; have h2 := HGL1.out; omega)
    have HXX := Aside0.mk (show we.heap[g1]? = some (.cells #[.slice X1.A0 X1.st.length X1.c0, .slice (some ⟨q, 0, none⟩) X1.ri.length X1.c1, .slice X1.A2 X1.ca.length X1.c2, .slice X1.A3 X1.su.length X1.c3] 27 (0, 0)) from by rw [← hA1]; exact CQ1.out.box)
    have HSX : Aside0 (rd_T55 X1.ri ci = sw) := ⟨by rw [HE1.out.2.1]; exact HSW.out⟩
    have HOW := Aside0.mk (show Ow { X1 with ri := X1.ri.set ci.toNat (⟨sw.f0, sw.f1, sw.f2, sw.f3, sw.f4, sw.f5⟩ : S55) } (fun k => lo1 ≤ k ∧ k < hi1) w.heap.size we from by rw [show X1.ri.set ci.toNat (⟨sw.f0, sw.f1, sw.f2, sw.f3, sw.f4, sw.f5⟩ : S55) = X1.ri from by rw [show (⟨sw.f0, sw.f1, sw.f2, sw.f3, sw.f4, sw.f5⟩ : S55) = rd_T55 X1.ri ci from HSX.out.symm]; exact set_rd_T55 ci0 hix]; exact CQ1.out.own)
    have HA1 := Aside0.mk hA1
    have HQB := Aside0.mk (And.intro hqb hqo)
    have HNB := Aside0.mk (show g2 ≠ q from by obtain ⟨cells, hc⟩ := hcl; exact blk_ne CQ2.out.box hc (by decide))
    clear hA1 hqb hqo hcl CQ1
    refine start_ (n := 32) (S := fun w' => True) (ds := []) #[false, false, false, false, false, false, false, false, false, false, false, false, false, false, false, false, false, false, false, false, false, false, false, false, false, false, false, false, false, false, false, false] (by kernel_rfl) rfl rfl trivial (fun hHeld => ?_)
    refine with_tabW divided.tab7 divided.bits7 (fun HT_ HW_ => ?_)
    have HBW := Aside0.mk (below_drew HB.out)
    have SZ := Aside0.mk (show we.heap.size ≤ we.drew.heap.size from Nat.le_refl _)
    have BX := Aside0.mk (show we.drew.heap[w.heap.size]? = some (.cells #[.slice a0.A0 a0.st.length a0.c0, .slice a0.A1 a0.ri.length a0.c1, .slice a0.A2 a0.ca.length a0.c2, .slice a0.A3 a0.su.length a0.c3] 27 (0, 0)) ∧ we.drew.heap[gw]? = some (.cells #[.int .i64 sw.f0, .int .i64 sw.f1, .int .i64 sw.f2, .int .i64 sw.f3, .int .i64 sw.f4, .int .i64 sw.f5] 55 (0, 0)) ∧ we.drew.heap[g1]? = some (.cells #[.slice X1.A0 X1.st.length X1.c0, .slice (some ⟨q, 0, none⟩) X1.ri.length X1.c1, .slice X1.A2 X1.ca.length X1.c2, .slice X1.A3 X1.su.length X1.c3] 27 (0, 0)) from ⟨HBX.out, HBV.out, HXX.out⟩)
    have OT := Aside0.mk (CQ2.out.below (below_drew (Below.refl _ _)))
    have O0 := Aside0.mk (HOW.out.below (below_drew (Below.refl _ _)))
    generalize we.drew = wd_ at *
    refine inv_at [0, 1, 2, 3, 4, 5, 6, 7, 8, 9, 10, 11, 12, 13, 14, 15, 16, 17, 18, 19, 20, 21, 22, 23, 24, 25, 26, 27, 28, 29, 30, 31] (fun a0_ b a w' => a = putSel a0_ b [(0, 66, .pointer (some ⟨g1, 1, none⟩)), (1, 67, .slice (some ⟨q, 0, none⟩) X1.ri.length X1.c1), (2, 68, .int .i64 ci), (3, 69, .pointer (some ⟨g1, 1, none⟩)), (4, 70, .slice (some ⟨q, 0, none⟩) X1.ri.length X1.c1), (5, 71, .int .i64 ci), (6, 72, .pointer (some ⟨g1, 1, none⟩)), (7, 73, .slice (some ⟨q, 0, none⟩) X1.ri.length X1.c1), (8, 74, .int .i64 ci), (9, 75, .pointer (some ⟨g1, 1, none⟩)), (10, 76, .slice (some ⟨q, 0, none⟩) X1.ri.length X1.c1), (11, 77, .int .i64 ci), (12, 78, .pointer (some ⟨gw, 2, none⟩)), (13, 79, .int .i64 sw.f2), (14, 80, .pointer (some ⟨gw, 3, none⟩)), (15, 81, .int .i64 sw.f3), (16, 82, .pointer (some ⟨gw, 0, none⟩)), (17, 83, .int .i64 sw.f0), (18, 84, .pointer (some ⟨gw, 1, none⟩)), (19, 85, .int .i64 sw.f1), (20, 86, .pointer (some ⟨q, ci.toNat * 6, none⟩)), (21, 87, .pointer (some ⟨q, ci.toNat * 6, none⟩)), (23, 88, .pointer (some ⟨q, ci.toNat * 6, none⟩)), (24, 89, .pointer (some ⟨q, ci.toNat * 6 + 1, none⟩)), (26, 90, .pointer (some ⟨q, ci.toNat * 6, none⟩)), (27, 91, .pointer (some ⟨q, ci.toNat * 6 + 2, none⟩)), (29, 92, .pointer (some ⟨q, ci.toNat * 6, none⟩)), (30, 93, .pointer (some ⟨q, ci.toNat * 6 + 3, none⟩))] ∧ (Below w.heap.size w w') ∧ (w'.heap[w.heap.size]? = some (.cells #[.slice a0.A0 a0.st.length a0.c0, .slice a0.A1 a0.ri.length a0.c1, .slice a0.A2 a0.ca.length a0.c2, .slice a0.A3 a0.su.length a0.c3] 27 (0, 0)) ∧ w'.heap[gw]? = some (.cells #[.int .i64 sw.f0, .int .i64 sw.f1, .int .i64 sw.f2, .int .i64 sw.f3, .int .i64 sw.f4, .int .i64 sw.f5] 55 (0, 0)) ∧ w'.heap[g1]? = some (.cells #[.slice X1.A0 X1.st.length X1.c0, .slice (some ⟨q, 0, none⟩) X1.ri.length X1.c1, .slice X1.A2 X1.ca.length X1.c2, .slice X1.A3 X1.su.length X1.c3] 27 (0, 0))) ∧ (we.heap.size ≤ w'.heap.size) ∧ (Cq X2 g2 (fun k => lo2 ≤ k ∧ k < hi2) w.heap.size w') ∧ (b 22 = false → Ow { X1 with ri := X1.ri.set ci.toNat (⟨sw.f0, sw.f1, sw.f2, sw.f3, sw.f4, sw.f5⟩ : S55) } (fun k => lo1 ≤ k ∧ k < hi1) w.heap.size w') ∧ (b 22 = true → b 25 = false → Ow { X1 with ri := X1.ri.set ci.toNat (⟨sw.f2, sw.f1, sw.f2, sw.f3, sw.f4, sw.f5⟩ : S55) } (fun k => lo1 ≤ k ∧ k < hi1) w.heap.size w') ∧ (b 25 = true → b 28 = false → Ow { X1 with ri := X1.ri.set ci.toNat (⟨sw.f2, sw.f3, sw.f2, sw.f3, sw.f4, sw.f5⟩ : S55) } (fun k => lo1 ≤ k ∧ k < hi1) w.heap.size w') ∧ (b 28 = true → b 31 = false → Ow { X1 with ri := X1.ri.set ci.toNat (⟨sw.f2, sw.f3, sw.f0, sw.f3, sw.f4, sw.f5⟩ : S55) } (fun k => lo1 ≤ k ∧ k < hi1) w.heap.size w') ∧ (b 31 = true → Ow { X1 with ri := X1.ri.set ci.toNat (⟨sw.f2, sw.f3, sw.f0, sw.f1, sw.f4, sw.f5⟩ : S55) } (fun k => lo1 ≤ k ∧ k < hi1) w.heap.size w')) HT_.out HW_.out (by kernel_rfl) (by kernel_rfl) ?_ ?_ ?_
    · exact ⟨by simp only [putSel, Bool.false_eq_true, if_false], HBW.out, BX.out, SZ.out, OT.out, fun _ => O0.out, fun h_ => absurd h_ (by decide), fun h_ => absurd h_ (by decide), fun h_ => absurd h_ (by decide), fun h_ => absurd h_ (by decide)⟩
    · skip
      clear BX HBW O0 OT SZ
      refine steps_cons ?_ ?_
      · rintro b a w' ⟨ha, Q_HBW, Q_BX, Q_SZ, Q_OT, Q_O0, Q_O1, Q_O2, Q_O3, Q_O4⟩ hb_ hon hoff
        refine ⟨_, rfl, fun K hK => ?_⟩
        have e13 : a.tmps[13]? = some (.pointer (some ⟨g1, 0, none⟩)) := by rw [ha]; exact (putSel_off rfl).trans rfl
        replace ha := Aside0.mk ha
        have HBW := Aside0.mk Q_HBW
        have BX := Aside0.mk Q_BX
        have SZ := Aside0.mk Q_SZ
        have OT := Aside0.mk Q_OT
        have O0 := Aside0.mk (Q_O0 (hoff 22 (by kernel_rfl)))
        refine value_ (w1 := w') (v := .pointer (some ⟨g1, 1, none⟩)) (by rfl) rfl ?_ ?_
        · go_simp
          (try simp only [i64_w])
          try rfl
        refine hK.out _ _ ⟨(by rw [ha.out]; exact putSel_upk 0 hb_ rfl rfl rfl), Q_HBW, Q_BX, Q_SZ, Q_OT, Q_O0, fun h0_ _ => absurd ((hoff 22 (by kernel_rfl)).symm.trans h0_) (by decide), fun h0_ _ => absurd ((hoff 25 (by kernel_rfl)).symm.trans h0_) (by decide), fun h0_ _ => absurd ((hoff 28 (by kernel_rfl)).symm.trans h0_) (by decide), fun h0_ => absurd ((hoff 31 (by kernel_rfl)).symm.trans h0_) (by decide)⟩
      refine steps_cons ?_ ?_
      · rintro b a w' ⟨ha, Q_HBW, Q_BX, Q_SZ, Q_OT, Q_O0, Q_O1, Q_O2, Q_O3, Q_O4⟩ hb_ hon hoff
        refine ⟨_, rfl, fun K hK => ?_⟩
        have e66 : a.tmps[66]? = some (.pointer (some ⟨g1, 1, none⟩)) := by rw [ha]; exact putSel_on (e := (0, 66, .pointer (some ⟨g1, 1, none⟩))) 0 rfl rfl (hon 0 (by kernel_rfl)) rfl
        replace ha := Aside0.mk ha
        have HBW := Aside0.mk Q_HBW
        have BX := Aside0.mk Q_BX
        have SZ := Aside0.mk Q_SZ
        have OT := Aside0.mk Q_OT
        have O0 := Aside0.mk (Q_O0 (hoff 22 (by kernel_rfl)))
        have k0_ := (blk_cell BX.out.2.2 1).trans rfl
        refine value_ (w1 := w') (v := .slice (some ⟨q, 0, none⟩) X1.ri.length X1.c1) (by rfl) rfl ?_ ?_
        · go_simp
          (try simp only [i64_w])
          try rfl
        refine hK.out _ _ ⟨(by rw [ha.out]; exact putSel_upk 1 hb_ rfl rfl rfl), Q_HBW, Q_BX, Q_SZ, Q_OT, Q_O0, fun h0_ _ => absurd ((hoff 22 (by kernel_rfl)).symm.trans h0_) (by decide), fun h0_ _ => absurd ((hoff 25 (by kernel_rfl)).symm.trans h0_) (by decide), fun h0_ _ => absurd ((hoff 28 (by kernel_rfl)).symm.trans h0_) (by decide), fun h0_ => absurd ((hoff 31 (by kernel_rfl)).symm.trans h0_) (by decide)⟩
      refine steps_cons ?_ ?_
      · rintro b a w' ⟨ha, Q_HBW, Q_BX, Q_SZ, Q_OT, Q_O0, Q_O1, Q_O2, Q_O3, Q_O4⟩ hb_ hon hoff
        refine ⟨_, rfl, fun K hK => ?_⟩
        have e11 : a.tmps[11]? = some (.int .i64 ci) := by rw [ha]; exact (putSel_off rfl).trans rfl
        replace ha := Aside0.mk ha
        have HBW := Aside0.mk Q_HBW
        have BX := Aside0.mk Q_BX
        have SZ := Aside0.mk Q_SZ
        have OT := Aside0.mk Q_OT
        have O0 := Aside0.mk (Q_O0 (hoff 22 (by kernel_rfl)))
        refine value_ (w1 := w') (v := .int .i64 ci) (by rfl) rfl ?_ ?_
        · go_simp
          (try simp only [i64_w])
          try rfl
        refine hK.out _ _ ⟨(by rw [ha.out]; exact putSel_upk 2 hb_ rfl rfl rfl), Q_HBW, Q_BX, Q_SZ, Q_OT, Q_O0, fun h0_ _ => absurd ((hoff 22 (by kernel_rfl)).symm.trans h0_) (by decide), fun h0_ _ => absurd ((hoff 25 (by kernel_rfl)).symm.trans h0_) (by decide), fun h0_ _ => absurd ((hoff 28 (by kernel_rfl)).symm.trans h0_) (by decide), fun h0_ => absurd ((hoff 31 (by kernel_rfl)).symm.trans h0_) (by decide)⟩
      refine steps_cons ?_ ?_
      · rintro b a w' ⟨ha, Q_HBW, Q_BX, Q_SZ, Q_OT, Q_O0, Q_O1, Q_O2, Q_O3, Q_O4⟩ hb_ hon hoff
        refine ⟨_, rfl, fun K hK => ?_⟩
        have e13 : a.tmps[13]? = some (.pointer (some ⟨g1, 0, none⟩)) := by rw [ha]; exact (putSel_off rfl).trans rfl
        replace ha := Aside0.mk ha
        have HBW := Aside0.mk Q_HBW
        have BX := Aside0.mk Q_BX
        have SZ := Aside0.mk Q_SZ
        have OT := Aside0.mk Q_OT
        refine value_ (w1 := w') (v := .pointer (some ⟨g1, 1, none⟩)) (by rfl) rfl ?_ ?_
        · go_simp
          (try simp only [i64_w])
          try rfl
        refine hK.out _ _ ⟨(by rw [ha.out]; exact putSel_upk 3 hb_ rfl rfl rfl), Q_HBW, Q_BX, Q_SZ, Q_OT, Q_O0, Q_O1, fun h0_ _ => absurd ((hoff 25 (by kernel_rfl)).symm.trans h0_) (by decide), fun h0_ _ => absurd ((hoff 28 (by kernel_rfl)).symm.trans h0_) (by decide), fun h0_ => absurd ((hoff 31 (by kernel_rfl)).symm.trans h0_) (by decide)⟩
      refine steps_cons ?_ ?_
      · rintro b a w' ⟨ha, Q_HBW, Q_BX, Q_SZ, Q_OT, Q_O0, Q_O1, Q_O2, Q_O3, Q_O4⟩ hb_ hon hoff
        refine ⟨_, rfl, fun K hK => ?_⟩
        have e69 : a.tmps[69]? = some (.pointer (some ⟨g1, 1, none⟩)) := by rw [ha]; exact putSel_on (e := (3, 69, .pointer (some ⟨g1, 1, none⟩))) 3 rfl rfl (hon 3 (by kernel_rfl)) rfl
        replace ha := Aside0.mk ha
        have HBW := Aside0.mk Q_HBW
        have BX := Aside0.mk Q_BX
        have SZ := Aside0.mk Q_SZ
        have OT := Aside0.mk Q_OT
        have k0_ := (blk_cell BX.out.2.2 1).trans rfl
        refine value_ (w1 := w') (v := .slice (some ⟨q, 0, none⟩) X1.ri.length X1.c1) (by rfl) rfl ?_ ?_
        · go_simp
          (try simp only [i64_w])
          try rfl
        refine hK.out _ _ ⟨(by rw [ha.out]; exact putSel_upk 4 hb_ rfl rfl rfl), Q_HBW, Q_BX, Q_SZ, Q_OT, Q_O0, Q_O1, fun h0_ _ => absurd ((hoff 25 (by kernel_rfl)).symm.trans h0_) (by decide), fun h0_ _ => absurd ((hoff 28 (by kernel_rfl)).symm.trans h0_) (by decide), fun h0_ => absurd ((hoff 31 (by kernel_rfl)).symm.trans h0_) (by decide)⟩
      refine steps_cons ?_ ?_
      · rintro b a w' ⟨ha, Q_HBW, Q_BX, Q_SZ, Q_OT, Q_O0, Q_O1, Q_O2, Q_O3, Q_O4⟩ hb_ hon hoff
        refine ⟨_, rfl, fun K hK => ?_⟩
        have e11 : a.tmps[11]? = some (.int .i64 ci) := by rw [ha]; exact (putSel_off rfl).trans rfl
        replace ha := Aside0.mk ha
        have HBW := Aside0.mk Q_HBW
        have BX := Aside0.mk Q_BX
        have SZ := Aside0.mk Q_SZ
        have OT := Aside0.mk Q_OT
        refine value_ (w1 := w') (v := .int .i64 ci) (by rfl) rfl ?_ ?_
        · go_simp
          (try simp only [i64_w])
          try rfl
        refine hK.out _ _ ⟨(by rw [ha.out]; exact putSel_upk 5 hb_ rfl rfl rfl), Q_HBW, Q_BX, Q_SZ, Q_OT, Q_O0, Q_O1, fun h0_ _ => absurd ((hoff 25 (by kernel_rfl)).symm.trans h0_) (by decide), fun h0_ _ => absurd ((hoff 28 (by kernel_rfl)).symm.trans h0_) (by decide), fun h0_ => absurd ((hoff 31 (by kernel_rfl)).symm.trans h0_) (by decide)⟩
      refine steps_cons ?_ ?_
      · rintro b a w' ⟨ha, Q_HBW, Q_BX, Q_SZ, Q_OT, Q_O0, Q_O1, Q_O2, Q_O3, Q_O4⟩ hb_ hon hoff
        refine ⟨_, rfl, fun K hK => ?_⟩
        have e13 : a.tmps[13]? = some (.pointer (some ⟨g1, 0, none⟩)) := by rw [ha]; exact (putSel_off rfl).trans rfl
        replace ha := Aside0.mk ha
        have HBW := Aside0.mk Q_HBW
        have BX := Aside0.mk Q_BX
        have SZ := Aside0.mk Q_SZ
        have OT := Aside0.mk Q_OT
        refine value_ (w1 := w') (v := .pointer (some ⟨g1, 1, none⟩)) (by rfl) rfl ?_ ?_
        · go_simp
          (try simp only [i64_w])
          try rfl
        refine hK.out _ _ ⟨(by rw [ha.out]; exact putSel_upk 6 hb_ rfl rfl rfl), Q_HBW, Q_BX, Q_SZ, Q_OT, Q_O0, Q_O1, Q_O2, fun h0_ _ => absurd ((hoff 28 (by kernel_rfl)).symm.trans h0_) (by decide), fun h0_ => absurd ((hoff 31 (by kernel_rfl)).symm.trans h0_) (by decide)⟩
      refine steps_cons ?_ ?_
      · rintro b a w' ⟨ha, Q_HBW, Q_BX, Q_SZ, Q_OT, Q_O0, Q_O1, Q_O2, Q_O3, Q_O4⟩ hb_ hon hoff
        refine ⟨_, rfl, fun K hK => ?_⟩
        have e72 : a.tmps[72]? = some (.pointer (some ⟨g1, 1, none⟩)) := by rw [ha]; exact putSel_on (e := (6, 72, .pointer (some ⟨g1, 1, none⟩))) 6 rfl rfl (hon 6 (by kernel_rfl)) rfl
        replace ha := Aside0.mk ha
        have HBW := Aside0.mk Q_HBW
        have BX := Aside0.mk Q_BX
        have SZ := Aside0.mk Q_SZ
        have OT := Aside0.mk Q_OT
        have k0_ := (blk_cell BX.out.2.2 1).trans rfl
        refine value_ (w1 := w') (v := .slice (some ⟨q, 0, none⟩) X1.ri.length X1.c1) (by rfl) rfl ?_ ?_
        · go_simp
          (try simp only [i64_w])
          try rfl
        refine hK.out _ _ ⟨(by rw [ha.out]; exact putSel_upk 7 hb_ rfl rfl rfl), Q_HBW, Q_BX, Q_SZ, Q_OT, Q_O0, Q_O1, Q_O2, fun h0_ _ => absurd ((hoff 28 (by kernel_rfl)).symm.trans h0_) (by decide), fun h0_ => absurd ((hoff 31 (by kernel_rfl)).symm.trans h0_) (by decide)⟩
      refine steps_cons ?_ ?_
      · rintro b a w' ⟨ha, Q_HBW, Q_BX, Q_SZ, Q_OT, Q_O0, Q_O1, Q_O2, Q_O3, Q_O4⟩ hb_ hon hoff
        refine ⟨_, rfl, fun K hK => ?_⟩
        have e11 : a.tmps[11]? = some (.int .i64 ci) := by rw [ha]; exact (putSel_off rfl).trans rfl
        replace ha := Aside0.mk ha
        have HBW := Aside0.mk Q_HBW
        have BX := Aside0.mk Q_BX
        have SZ := Aside0.mk Q_SZ
        have OT := Aside0.mk Q_OT
        refine value_ (w1 := w') (v := .int .i64 ci) (by rfl) rfl ?_ ?_
        · go_simp
          (try simp only [i64_w])
          try rfl
        refine hK.out _ _ ⟨(by rw [ha.out]; exact putSel_upk 8 hb_ rfl rfl rfl), Q_HBW, Q_BX, Q_SZ, Q_OT, Q_O0, Q_O1, Q_O2, fun h0_ _ => absurd ((hoff 28 (by kernel_rfl)).symm.trans h0_) (by decide), fun h0_ => absurd ((hoff 31 (by kernel_rfl)).symm.trans h0_) (by decide)⟩
      refine steps_cons ?_ ?_
      · rintro b a w' ⟨ha, Q_HBW, Q_BX, Q_SZ, Q_OT, Q_O0, Q_O1, Q_O2, Q_O3, Q_O4⟩ hb_ hon hoff
        refine ⟨_, rfl, fun K hK => ?_⟩
        have e13 : a.tmps[13]? = some (.pointer (some ⟨g1, 0, none⟩)) := by rw [ha]; exact (putSel_off rfl).trans rfl
        replace ha := Aside0.mk ha
        have HBW := Aside0.mk Q_HBW
        have BX := Aside0.mk Q_BX
        have SZ := Aside0.mk Q_SZ
        have OT := Aside0.mk Q_OT
        refine value_ (w1 := w') (v := .pointer (some ⟨g1, 1, none⟩)) (by rfl) rfl ?_ ?_
        · go_simp
          (try simp only [i64_w])
          try rfl
        refine hK.out _ _ ⟨(by rw [ha.out]; exact putSel_upk 9 hb_ rfl rfl rfl), Q_HBW, Q_BX, Q_SZ, Q_OT, Q_O0, Q_O1, Q_O2, Q_O3, fun h0_ => absurd ((hoff 31 (by kernel_rfl)).symm.trans h0_) (by decide)⟩
      refine steps_cons ?_ ?_
      · rintro b a w' ⟨ha, Q_HBW, Q_BX, Q_SZ, Q_OT, Q_O0, Q_O1, Q_O2, Q_O3, Q_O4⟩ hb_ hon hoff
        refine ⟨_, rfl, fun K hK => ?_⟩
        have e75 : a.tmps[75]? = some (.pointer (some ⟨g1, 1, none⟩)) := by rw [ha]; exact putSel_on (e := (9, 75, .pointer (some ⟨g1, 1, none⟩))) 9 rfl rfl (hon 9 (by kernel_rfl)) rfl
        replace ha := Aside0.mk ha
        have HBW := Aside0.mk Q_HBW
        have BX := Aside0.mk Q_BX
        have SZ := Aside0.mk Q_SZ
        have OT := Aside0.mk Q_OT
        have k0_ := (blk_cell BX.out.2.2 1).trans rfl
        refine value_ (w1 := w') (v := .slice (some ⟨q, 0, none⟩) X1.ri.length X1.c1) (by rfl) rfl ?_ ?_
        · go_simp
          (try simp only [i64_w])
          try rfl
        refine hK.out _ _ ⟨(by rw [ha.out]; exact putSel_upk 10 hb_ rfl rfl rfl), Q_HBW, Q_BX, Q_SZ, Q_OT, Q_O0, Q_O1, Q_O2, Q_O3, fun h0_ => absurd ((hoff 31 (by kernel_rfl)).symm.trans h0_) (by decide)⟩
      refine steps_cons ?_ ?_
      · rintro b a w' ⟨ha, Q_HBW, Q_BX, Q_SZ, Q_OT, Q_O0, Q_O1, Q_O2, Q_O3, Q_O4⟩ hb_ hon hoff
        refine ⟨_, rfl, fun K hK => ?_⟩
        have e11 : a.tmps[11]? = some (.int .i64 ci) := by rw [ha]; exact (putSel_off rfl).trans rfl
        replace ha := Aside0.mk ha
        have HBW := Aside0.mk Q_HBW
        have BX := Aside0.mk Q_BX
        have SZ := Aside0.mk Q_SZ
        have OT := Aside0.mk Q_OT
        refine value_ (w1 := w') (v := .int .i64 ci) (by rfl) rfl ?_ ?_
        · go_simp
          (try simp only [i64_w])
          try rfl
        refine hK.out _ _ ⟨(by rw [ha.out]; exact putSel_upk 11 hb_ rfl rfl rfl), Q_HBW, Q_BX, Q_SZ, Q_OT, Q_O0, Q_O1, Q_O2, Q_O3, fun h0_ => absurd ((hoff 31 (by kernel_rfl)).symm.trans h0_) (by decide)⟩
      refine steps_cons ?_ ?_
      · rintro b a w' ⟨ha, Q_HBW, Q_BX, Q_SZ, Q_OT, Q_O0, Q_O1, Q_O2, Q_O3, Q_O4⟩ hb_ hon hoff
        refine ⟨_, rfl, fun K hK => ?_⟩
        have e12 : a.tmps[12]? = some (.pointer (some ⟨gw, 0, none⟩)) := by rw [ha]; exact (putSel_off rfl).trans rfl
        replace ha := Aside0.mk ha
        have HBW := Aside0.mk Q_HBW
        have BX := Aside0.mk Q_BX
        have SZ := Aside0.mk Q_SZ
        have OT := Aside0.mk Q_OT
        have O0 := Aside0.mk (Q_O0 (hoff 22 (by kernel_rfl)))
        refine value_ (w1 := w') (v := .pointer (some ⟨gw, 2, none⟩)) (by rfl) rfl ?_ ?_
        · go_simp
          (try simp only [i64_w])
          try rfl
        refine hK.out _ _ ⟨(by rw [ha.out]; exact putSel_upk 12 hb_ rfl rfl rfl), Q_HBW, Q_BX, Q_SZ, Q_OT, Q_O0, fun h0_ _ => absurd ((hoff 22 (by kernel_rfl)).symm.trans h0_) (by decide), fun h0_ _ => absurd ((hoff 25 (by kernel_rfl)).symm.trans h0_) (by decide), fun h0_ _ => absurd ((hoff 28 (by kernel_rfl)).symm.trans h0_) (by decide), fun h0_ => absurd ((hoff 31 (by kernel_rfl)).symm.trans h0_) (by decide)⟩
      refine steps_cons ?_ ?_
      · rintro b a w' ⟨ha, Q_HBW, Q_BX, Q_SZ, Q_OT, Q_O0, Q_O1, Q_O2, Q_O3, Q_O4⟩ hb_ hon hoff
        refine ⟨_, rfl, fun K hK => ?_⟩
        have e78 : a.tmps[78]? = some (.pointer (some ⟨gw, 2, none⟩)) := by rw [ha]; exact putSel_on (e := (12, 78, .pointer (some ⟨gw, 2, none⟩))) 12 rfl rfl (hon 12 (by kernel_rfl)) rfl
        replace ha := Aside0.mk ha
        have HBW := Aside0.mk Q_HBW
        have BX := Aside0.mk Q_BX
        have SZ := Aside0.mk Q_SZ
        have OT := Aside0.mk Q_OT
        have O0 := Aside0.mk (Q_O0 (hoff 22 (by kernel_rfl)))
        have k0_ := (blk_cell BX.out.2.1 2).trans rfl
        refine value_ (w1 := w') (v := .int .i64 sw.f2) (by rfl) rfl ?_ ?_
        · go_simp
          (try simp only [i64_w])
          try rfl
        refine hK.out _ _ ⟨(by rw [ha.out]; exact putSel_upk 13 hb_ rfl rfl rfl), Q_HBW, Q_BX, Q_SZ, Q_OT, Q_O0, fun h0_ _ => absurd ((hoff 22 (by kernel_rfl)).symm.trans h0_) (by decide), fun h0_ _ => absurd ((hoff 25 (by kernel_rfl)).symm.trans h0_) (by decide), fun h0_ _ => absurd ((hoff 28 (by kernel_rfl)).symm.trans h0_) (by decide), fun h0_ => absurd ((hoff 31 (by kernel_rfl)).symm.trans h0_) (by decide)⟩
      refine steps_cons ?_ ?_
      · rintro b a w' ⟨ha, Q_HBW, Q_BX, Q_SZ, Q_OT, Q_O0, Q_O1, Q_O2, Q_O3, Q_O4⟩ hb_ hon hoff
        refine ⟨_, rfl, fun K hK => ?_⟩
        have e12 : a.tmps[12]? = some (.pointer (some ⟨gw, 0, none⟩)) := by rw [ha]; exact (putSel_off rfl).trans rfl
        replace ha := Aside0.mk ha
        have HBW := Aside0.mk Q_HBW
        have BX := Aside0.mk Q_BX
        have SZ := Aside0.mk Q_SZ
        have OT := Aside0.mk Q_OT
        refine value_ (w1 := w') (v := .pointer (some ⟨gw, 3, none⟩)) (by rfl) rfl ?_ ?_
        · go_simp
          (try simp only [i64_w])
          try rfl
        refine hK.out _ _ ⟨(by rw [ha.out]; exact putSel_upk 14 hb_ rfl rfl rfl), Q_HBW, Q_BX, Q_SZ, Q_OT, Q_O0, Q_O1, fun h0_ _ => absurd ((hoff 25 (by kernel_rfl)).symm.trans h0_) (by decide), fun h0_ _ => absurd ((hoff 28 (by kernel_rfl)).symm.trans h0_) (by decide), fun h0_ => absurd ((hoff 31 (by kernel_rfl)).symm.trans h0_) (by decide)⟩
      refine steps_cons ?_ ?_
      · rintro b a w' ⟨ha, Q_HBW, Q_BX, Q_SZ, Q_OT, Q_O0, Q_O1, Q_O2, Q_O3, Q_O4⟩ hb_ hon hoff
        refine ⟨_, rfl, fun K hK => ?_⟩
        have e80 : a.tmps[80]? = some (.pointer (some ⟨gw, 3, none⟩)) := by rw [ha]; exact putSel_on (e := (14, 80, .pointer (some ⟨gw, 3, none⟩))) 14 rfl rfl (hon 14 (by kernel_rfl)) rfl
        replace ha := Aside0.mk ha
        have HBW := Aside0.mk Q_HBW
        have BX := Aside0.mk Q_BX
        have SZ := Aside0.mk Q_SZ
        have OT := Aside0.mk Q_OT
        have k0_ := (blk_cell BX.out.2.1 3).trans rfl
        refine value_ (w1 := w') (v := .int .i64 sw.f3) (by rfl) rfl ?_ ?_
        · go_simp
          (try simp only [i64_w])
          try rfl
        refine hK.out _ _ ⟨(by rw [ha.out]; exact putSel_upk 15 hb_ rfl rfl rfl), Q_HBW, Q_BX, Q_SZ, Q_OT, Q_O0, Q_O1, fun h0_ _ => absurd ((hoff 25 (by kernel_rfl)).symm.trans h0_) (by decide), fun h0_ _ => absurd ((hoff 28 (by kernel_rfl)).symm.trans h0_) (by decide), fun h0_ => absurd ((hoff 31 (by kernel_rfl)).symm.trans h0_) (by decide)⟩
      refine steps_cons ?_ ?_
      · rintro b a w' ⟨ha, Q_HBW, Q_BX, Q_SZ, Q_OT, Q_O0, Q_O1, Q_O2, Q_O3, Q_O4⟩ hb_ hon hoff
        refine ⟨_, rfl, fun K hK => ?_⟩
        have e12 : a.tmps[12]? = some (.pointer (some ⟨gw, 0, none⟩)) := by rw [ha]; exact (putSel_off rfl).trans rfl
        replace ha := Aside0.mk ha
        have HBW := Aside0.mk Q_HBW
        have BX := Aside0.mk Q_BX
        have SZ := Aside0.mk Q_SZ
        have OT := Aside0.mk Q_OT
        refine value_ (w1 := w') (v := .pointer (some ⟨gw, 0, none⟩)) (by rfl) rfl ?_ ?_
        · go_simp
          (try simp only [i64_w])
          try rfl
        refine hK.out _ _ ⟨(by rw [ha.out]; exact putSel_upk 16 hb_ rfl rfl rfl), Q_HBW, Q_BX, Q_SZ, Q_OT, Q_O0, Q_O1, Q_O2, fun h0_ _ => absurd ((hoff 28 (by kernel_rfl)).symm.trans h0_) (by decide), fun h0_ => absurd ((hoff 31 (by kernel_rfl)).symm.trans h0_) (by decide)⟩
      refine steps_cons ?_ ?_
      · rintro b a w' ⟨ha, Q_HBW, Q_BX, Q_SZ, Q_OT, Q_O0, Q_O1, Q_O2, Q_O3, Q_O4⟩ hb_ hon hoff
        refine ⟨_, rfl, fun K hK => ?_⟩
        have e82 : a.tmps[82]? = some (.pointer (some ⟨gw, 0, none⟩)) := by rw [ha]; exact putSel_on (e := (16, 82, .pointer (some ⟨gw, 0, none⟩))) 16 rfl rfl (hon 16 (by kernel_rfl)) rfl
        replace ha := Aside0.mk ha
        have HBW := Aside0.mk Q_HBW
        have BX := Aside0.mk Q_BX
        have SZ := Aside0.mk Q_SZ
        have OT := Aside0.mk Q_OT
        have k0_ := (blk_cell BX.out.2.1 0).trans rfl
        refine value_ (w1 := w') (v := .int .i64 sw.f0) (by rfl) rfl ?_ ?_
        · go_simp
          (try simp only [i64_w])
          try rfl
        refine hK.out _ _ ⟨(by rw [ha.out]; exact putSel_upk 17 hb_ rfl rfl rfl), Q_HBW, Q_BX, Q_SZ, Q_OT, Q_O0, Q_O1, Q_O2, fun h0_ _ => absurd ((hoff 28 (by kernel_rfl)).symm.trans h0_) (by decide), fun h0_ => absurd ((hoff 31 (by kernel_rfl)).symm.trans h0_) (by decide)⟩
      refine steps_cons ?_ ?_
      · rintro b a w' ⟨ha, Q_HBW, Q_BX, Q_SZ, Q_OT, Q_O0, Q_O1, Q_O2, Q_O3, Q_O4⟩ hb_ hon hoff
        refine ⟨_, rfl, fun K hK => ?_⟩
        have e12 : a.tmps[12]? = some (.pointer (some ⟨gw, 0, none⟩)) := by rw [ha]; exact (putSel_off rfl).trans rfl
        replace ha := Aside0.mk ha
        have HBW := Aside0.mk Q_HBW
        have BX := Aside0.mk Q_BX
        have SZ := Aside0.mk Q_SZ
        have OT := Aside0.mk Q_OT
        refine value_ (w1 := w') (v := .pointer (some ⟨gw, 1, none⟩)) (by rfl) rfl ?_ ?_
        · go_simp
          (try simp only [i64_w])
          try rfl
        refine hK.out _ _ ⟨(by rw [ha.out]; exact putSel_upk 18 hb_ rfl rfl rfl), Q_HBW, Q_BX, Q_SZ, Q_OT, Q_O0, Q_O1, Q_O2, Q_O3, fun h0_ => absurd ((hoff 31 (by kernel_rfl)).symm.trans h0_) (by decide)⟩
      refine steps_cons ?_ ?_
      · rintro b a w' ⟨ha, Q_HBW, Q_BX, Q_SZ, Q_OT, Q_O0, Q_O1, Q_O2, Q_O3, Q_O4⟩ hb_ hon hoff
        refine ⟨_, rfl, fun K hK => ?_⟩
        have e84 : a.tmps[84]? = some (.pointer (some ⟨gw, 1, none⟩)) := by rw [ha]; exact putSel_on (e := (18, 84, .pointer (some ⟨gw, 1, none⟩))) 18 rfl rfl (hon 18 (by kernel_rfl)) rfl
        replace ha := Aside0.mk ha
        have HBW := Aside0.mk Q_HBW
        have BX := Aside0.mk Q_BX
        have SZ := Aside0.mk Q_SZ
        have OT := Aside0.mk Q_OT
        have k0_ := (blk_cell BX.out.2.1 1).trans rfl
        refine value_ (w1 := w') (v := .int .i64 sw.f1) (by rfl) rfl ?_ ?_
        · go_simp
          (try simp only [i64_w])
          try rfl
        refine hK.out _ _ ⟨(by rw [ha.out]; exact putSel_upk 19 hb_ rfl rfl rfl), Q_HBW, Q_BX, Q_SZ, Q_OT, Q_O0, Q_O1, Q_O2, Q_O3, fun h0_ => absurd ((hoff 31 (by kernel_rfl)).symm.trans h0_) (by decide)⟩
      refine steps_cons ?_ ?_
      · rintro b a w' ⟨ha, Q_HBW, Q_BX, Q_SZ, Q_OT, Q_O0, Q_O1, Q_O2, Q_O3, Q_O4⟩ hb_ hon hoff
        refine ⟨_, rfl, fun K hK => ?_⟩
        have e67 : a.tmps[67]? = some (.slice (some ⟨q, 0, none⟩) X1.ri.length X1.c1) := by rw [ha]; exact putSel_on (e := (1, 67, .slice (some ⟨q, 0, none⟩) X1.ri.length X1.c1)) 1 rfl rfl (hon 1 (by kernel_rfl)) rfl
        have e68 : a.tmps[68]? = some (.int .i64 ci) := by rw [ha]; exact putSel_on (e := (2, 68, .int .i64 ci)) 2 rfl rfl (hon 2 (by kernel_rfl)) rfl
        replace ha := Aside0.mk ha
        have HBW := Aside0.mk Q_HBW
        have BX := Aside0.mk Q_BX
        have SZ := Aside0.mk Q_SZ
        have OT := Aside0.mk Q_OT
        have O0 := Aside0.mk (Q_O0 (hoff 22 (by kernel_rfl)))
        have k1_ : (0 : Int) ≤ ci := ci0
        have k2_ := hix
        refine value_ (w1 := w') (v := .pointer (some ⟨q, ci.toNat * 6, none⟩)) (by rfl) rfl ?_ ?_
        · go_simp
          (try simp only [i64_w])
          try rfl
        refine hK.out _ _ ⟨(by rw [ha.out]; exact putSel_upk 20 hb_ rfl rfl rfl), Q_HBW, Q_BX, Q_SZ, Q_OT, Q_O0, fun h0_ _ => absurd ((hoff 22 (by kernel_rfl)).symm.trans h0_) (by decide), fun h0_ _ => absurd ((hoff 25 (by kernel_rfl)).symm.trans h0_) (by decide), fun h0_ _ => absurd ((hoff 28 (by kernel_rfl)).symm.trans h0_) (by decide), fun h0_ => absurd ((hoff 31 (by kernel_rfl)).symm.trans h0_) (by decide)⟩
      refine steps_cons ?_ ?_
      · rintro b a w' ⟨ha, Q_HBW, Q_BX, Q_SZ, Q_OT, Q_O0, Q_O1, Q_O2, Q_O3, Q_O4⟩ hb_ hon hoff
        refine ⟨_, rfl, fun K hK => ?_⟩
        have e86 : a.tmps[86]? = some (.pointer (some ⟨q, ci.toNat * 6, none⟩)) := by rw [ha]; exact putSel_on (e := (20, 86, .pointer (some ⟨q, ci.toNat * 6, none⟩))) 20 rfl rfl (hon 20 (by kernel_rfl)) rfl
        replace ha := Aside0.mk ha
        have HBW := Aside0.mk Q_HBW
        have BX := Aside0.mk Q_BX
        have SZ := Aside0.mk Q_SZ
        have OT := Aside0.mk Q_OT
        have O0 := Aside0.mk (Q_O0 (hoff 22 (by kernel_rfl)))
        refine value_ (w1 := w') (v := .pointer (some ⟨q, ci.toNat * 6, none⟩)) (by rfl) rfl ?_ ?_
        · go_simp
          (try simp only [i64_w])
          try rfl
        refine hK.out _ _ ⟨(by rw [ha.out]; exact putSel_upk 21 hb_ rfl rfl rfl), Q_HBW, Q_BX, Q_SZ, Q_OT, Q_O0, fun h0_ _ => absurd ((hoff 22 (by kernel_rfl)).symm.trans h0_) (by decide), fun h0_ _ => absurd ((hoff 25 (by kernel_rfl)).symm.trans h0_) (by decide), fun h0_ _ => absurd ((hoff 28 (by kernel_rfl)).symm.trans h0_) (by decide), fun h0_ => absurd ((hoff 31 (by kernel_rfl)).symm.trans h0_) (by decide)⟩
      refine steps_cons ?_ ?_
      · rintro b a w' ⟨ha, Q_HBW, Q_BX, Q_SZ, Q_OT, Q_O0, Q_O1, Q_O2, Q_O3, Q_O4⟩ hb_ hon hoff
        refine ⟨_, rfl, fun K hK => ?_⟩
        have e87 : a.tmps[87]? = some (.pointer (some ⟨q, ci.toNat * 6, none⟩)) := by rw [ha]; exact putSel_on (e := (21, 87, .pointer (some ⟨q, ci.toNat * 6, none⟩))) 21 rfl rfl (hon 21 (by kernel_rfl)) rfl
        have e79 : a.tmps[79]? = some (.int .i64 sw.f2) := by rw [ha]; exact putSel_on (e := (13, 79, .int .i64 sw.f2)) 13 rfl rfl (hon 13 (by kernel_rfl)) rfl
        replace ha := Aside0.mk ha
        have HBW := Aside0.mk Q_HBW
        have BX := Aside0.mk Q_BX
        have SZ := Aside0.mk Q_SZ
        have OT := Aside0.mk Q_OT
        have O0 := Aside0.mk (Q_O0 hb_)
        obtain ⟨⟨cells_, hcl_⟩, hcc_⟩ := O0.out.at55 HA1.out ci0 hix
        have c0 := hcc_ 0 _ rfl
        have f0 := blk_frozen hcl_ (ci.toNat * 6 + 0)
        clear hcl_ hcc_
        simp only [Nat.add_zero] at c0 f0
        refine skip_ (w1 := w'.setCell ⟨q, ci.toNat * 6 + 0, none⟩ (.int .i64 sw.f2)) (by rfl) rfl (by go_simp) ?_
        refine hK.out _ _ ⟨(by rw [ha.out]; exact putSel_none (v := undef) rfl), below_set HBW.out HQB.out.1, ⟨blk_far (p := ⟨q, ci.toNat * 6 + 0, none⟩) BX.out.1 HN.out.1 _, blk_far (p := ⟨q, ci.toNat * 6 + 0, none⟩) BX.out.2.1 HN.out.2.1 _, blk_far (p := ⟨q, ci.toNat * 6 + 0, none⟩) BX.out.2.2 HN.out.2.2 _⟩, Nat.le_trans SZ.out (Nat.le_of_eq (setCell_size _ _ _).symm), OT.out.far (p := ⟨q, ci.toNat * 6 + 0, none⟩) (show g2 ≠ q from HNB.out) (fun k hk => show k ≠ q from by have h1 := HQB.out.2.2; have h2 := HIV.out.1; have h3 := hk.1; omega) _, fun h0_ => absurd ((up_self b 22).symm.trans h0_) (by decide), fun _ _ => O0.out.put55 HA1.out ci0 hix 0 _ (⟨sw.f2, sw.f1, sw.f2, sw.f3, sw.f4, sw.f5⟩ : S55) (by decide) rfl, fun h0_ _ => absurd ((hoff 25 (by kernel_rfl)).symm.trans h0_) (by decide), fun h0_ _ => absurd ((hoff 28 (by kernel_rfl)).symm.trans h0_) (by decide), fun h0_ => absurd ((hoff 31 (by kernel_rfl)).symm.trans h0_) (by decide)⟩
      refine steps_cons ?_ ?_
      · rintro b a w' ⟨ha, Q_HBW, Q_BX, Q_SZ, Q_OT, Q_O0, Q_O1, Q_O2, Q_O3, Q_O4⟩ hb_ hon hoff
        refine ⟨_, rfl, fun K hK => ?_⟩
        have e70 : a.tmps[70]? = some (.slice (some ⟨q, 0, none⟩) X1.ri.length X1.c1) := by rw [ha]; exact putSel_on (e := (4, 70, .slice (some ⟨q, 0, none⟩) X1.ri.length X1.c1)) 4 rfl rfl (hon 4 (by kernel_rfl)) rfl
        have e71 : a.tmps[71]? = some (.int .i64 ci) := by rw [ha]; exact putSel_on (e := (5, 71, .int .i64 ci)) 5 rfl rfl (hon 5 (by kernel_rfl)) rfl
        replace ha := Aside0.mk ha
        have HBW := Aside0.mk Q_HBW
        have BX := Aside0.mk Q_BX
        have SZ := Aside0.mk Q_SZ
        have OT := Aside0.mk Q_OT
        have O1 := Aside0.mk (Q_O1 (hon 22 (by kernel_rfl)) (hoff 25 (by kernel_rfl)))
        have k1_ : (0 : Int) ≤ ci := ci0
        have k2_ := hix
        refine value_ (w1 := w') (v := .pointer (some ⟨q, ci.toNat * 6, none⟩)) (by rfl) rfl ?_ ?_
        · go_simp
          (try simp only [i64_w])
          try rfl
        refine hK.out _ _ ⟨(by rw [ha.out]; exact putSel_upk 22 hb_ rfl rfl rfl), Q_HBW, Q_BX, Q_SZ, Q_OT, fun h0_ => absurd ((hon 22 (by kernel_rfl)).symm.trans h0_) (by decide), Q_O1, fun h0_ _ => absurd ((hoff 25 (by kernel_rfl)).symm.trans h0_) (by decide), fun h0_ _ => absurd ((hoff 28 (by kernel_rfl)).symm.trans h0_) (by decide), fun h0_ => absurd ((hoff 31 (by kernel_rfl)).symm.trans h0_) (by decide)⟩
      refine steps_cons ?_ ?_
      · rintro b a w' ⟨ha, Q_HBW, Q_BX, Q_SZ, Q_OT, Q_O0, Q_O1, Q_O2, Q_O3, Q_O4⟩ hb_ hon hoff
        refine ⟨_, rfl, fun K hK => ?_⟩
        have e88 : a.tmps[88]? = some (.pointer (some ⟨q, ci.toNat * 6, none⟩)) := by rw [ha]; exact putSel_on (e := (23, 88, .pointer (some ⟨q, ci.toNat * 6, none⟩))) 22 rfl rfl (hon 23 (by kernel_rfl)) rfl
        replace ha := Aside0.mk ha
        have HBW := Aside0.mk Q_HBW
        have BX := Aside0.mk Q_BX
        have SZ := Aside0.mk Q_SZ
        have OT := Aside0.mk Q_OT
        have O1 := Aside0.mk (Q_O1 (hon 22 (by kernel_rfl)) (hoff 25 (by kernel_rfl)))
        refine value_ (w1 := w') (v := .pointer (some ⟨q, ci.toNat * 6 + 1, none⟩)) (by rfl) rfl ?_ ?_
        · go_simp
          (try simp only [i64_w])
          try rfl
        refine hK.out _ _ ⟨(by rw [ha.out]; exact putSel_upk 23 hb_ rfl rfl rfl), Q_HBW, Q_BX, Q_SZ, Q_OT, fun h0_ => absurd ((hon 22 (by kernel_rfl)).symm.trans h0_) (by decide), Q_O1, fun h0_ _ => absurd ((hoff 25 (by kernel_rfl)).symm.trans h0_) (by decide), fun h0_ _ => absurd ((hoff 28 (by kernel_rfl)).symm.trans h0_) (by decide), fun h0_ => absurd ((hoff 31 (by kernel_rfl)).symm.trans h0_) (by decide)⟩
      refine steps_cons ?_ ?_
      · rintro b a w' ⟨ha, Q_HBW, Q_BX, Q_SZ, Q_OT, Q_O0, Q_O1, Q_O2, Q_O3, Q_O4⟩ hb_ hon hoff
        refine ⟨_, rfl, fun K hK => ?_⟩
        have e89 : a.tmps[89]? = some (.pointer (some ⟨q, ci.toNat * 6 + 1, none⟩)) := by rw [ha]; exact putSel_on (e := (24, 89, .pointer (some ⟨q, ci.toNat * 6 + 1, none⟩))) 23 rfl rfl (hon 24 (by kernel_rfl)) rfl
        have e81 : a.tmps[81]? = some (.int .i64 sw.f3) := by rw [ha]; exact putSel_on (e := (15, 81, .int .i64 sw.f3)) 15 rfl rfl (hon 15 (by kernel_rfl)) rfl
        replace ha := Aside0.mk ha
        have HBW := Aside0.mk Q_HBW
        have BX := Aside0.mk Q_BX
        have SZ := Aside0.mk Q_SZ
        have OT := Aside0.mk Q_OT
        have O1 := Aside0.mk (Q_O1 (hon 22 (by kernel_rfl)) hb_)
        obtain ⟨⟨cells_, hcl_⟩, hcc_⟩ := O1.out.at55 HA1.out ci0 hix
        have c0 := hcc_ 1 _ rfl
        have f0 := blk_frozen hcl_ (ci.toNat * 6 + 1)
        clear hcl_ hcc_
        refine skip_ (w1 := w'.setCell ⟨q, ci.toNat * 6 + 1, none⟩ (.int .i64 sw.f3)) (by rfl) rfl (by go_simp) ?_
        refine hK.out _ _ ⟨(by rw [ha.out]; exact putSel_none (v := undef) rfl), below_set HBW.out HQB.out.1, ⟨blk_far (p := ⟨q, ci.toNat * 6 + 1, none⟩) BX.out.1 HN.out.1 _, blk_far (p := ⟨q, ci.toNat * 6 + 1, none⟩) BX.out.2.1 HN.out.2.1 _, blk_far (p := ⟨q, ci.toNat * 6 + 1, none⟩) BX.out.2.2 HN.out.2.2 _⟩, Nat.le_trans SZ.out (Nat.le_of_eq (setCell_size _ _ _).symm), OT.out.far (p := ⟨q, ci.toNat * 6 + 1, none⟩) (show g2 ≠ q from HNB.out) (fun k hk => show k ≠ q from by have h1 := HQB.out.2.2; have h2 := HIV.out.1; have h3 := hk.1; omega) _, fun h0_ => absurd ((hon 22 (by kernel_rfl)).symm.trans h0_) (by decide), fun _ h1_ => absurd ((up_self b 25).symm.trans h1_) (by decide), fun _ _ => O1.out.put55 HA1.out ci0 hix 1 _ (⟨sw.f2, sw.f3, sw.f2, sw.f3, sw.f4, sw.f5⟩ : S55) (by decide) rfl, fun h0_ _ => absurd ((hoff 28 (by kernel_rfl)).symm.trans h0_) (by decide), fun h0_ => absurd ((hoff 31 (by kernel_rfl)).symm.trans h0_) (by decide)⟩
      refine steps_cons ?_ ?_
      · rintro b a w' ⟨ha, Q_HBW, Q_BX, Q_SZ, Q_OT, Q_O0, Q_O1, Q_O2, Q_O3, Q_O4⟩ hb_ hon hoff
        refine ⟨_, rfl, fun K hK => ?_⟩
        have e73 : a.tmps[73]? = some (.slice (some ⟨q, 0, none⟩) X1.ri.length X1.c1) := by rw [ha]; exact putSel_on (e := (7, 73, .slice (some ⟨q, 0, none⟩) X1.ri.length X1.c1)) 7 rfl rfl (hon 7 (by kernel_rfl)) rfl
        have e74 : a.tmps[74]? = some (.int .i64 ci) := by rw [ha]; exact putSel_on (e := (8, 74, .int .i64 ci)) 8 rfl rfl (hon 8 (by kernel_rfl)) rfl
        replace ha := Aside0.mk ha
        have HBW := Aside0.mk Q_HBW
        have BX := Aside0.mk Q_BX
        have SZ := Aside0.mk Q_SZ
        have OT := Aside0.mk Q_OT
        have O2 := Aside0.mk (Q_O2 (hon 25 (by kernel_rfl)) (hoff 28 (by kernel_rfl)))
        have k1_ : (0 : Int) ≤ ci := ci0
        have k2_ := hix
        refine value_ (w1 := w') (v := .pointer (some ⟨q, ci.toNat * 6, none⟩)) (by rfl) rfl ?_ ?_
        · go_simp
          (try simp only [i64_w])
          try rfl
        refine hK.out _ _ ⟨(by rw [ha.out]; exact putSel_upk 24 hb_ rfl rfl rfl), Q_HBW, Q_BX, Q_SZ, Q_OT, fun h0_ => absurd ((hon 22 (by kernel_rfl)).symm.trans h0_) (by decide), fun _ h1_ => absurd ((hon 25 (by kernel_rfl)).symm.trans h1_) (by decide), Q_O2, fun h0_ _ => absurd ((hoff 28 (by kernel_rfl)).symm.trans h0_) (by decide), fun h0_ => absurd ((hoff 31 (by kernel_rfl)).symm.trans h0_) (by decide)⟩
      refine steps_cons ?_ ?_
      · rintro b a w' ⟨ha, Q_HBW, Q_BX, Q_SZ, Q_OT, Q_O0, Q_O1, Q_O2, Q_O3, Q_O4⟩ hb_ hon hoff
        refine ⟨_, rfl, fun K hK => ?_⟩
        have e90 : a.tmps[90]? = some (.pointer (some ⟨q, ci.toNat * 6, none⟩)) := by rw [ha]; exact putSel_on (e := (26, 90, .pointer (some ⟨q, ci.toNat * 6, none⟩))) 24 rfl rfl (hon 26 (by kernel_rfl)) rfl
        replace ha := Aside0.mk ha
        have HBW := Aside0.mk Q_HBW
        have BX := Aside0.mk Q_BX
        have SZ := Aside0.mk Q_SZ
        have OT := Aside0.mk Q_OT
        have O2 := Aside0.mk (Q_O2 (hon 25 (by kernel_rfl)) (hoff 28 (by kernel_rfl)))
        refine value_ (w1 := w') (v := .pointer (some ⟨q, ci.toNat * 6 + 2, none⟩)) (by rfl) rfl ?_ ?_
        · go_simp
          (try simp only [i64_w])
          try rfl
        refine hK.out _ _ ⟨(by rw [ha.out]; exact putSel_upk 25 hb_ rfl rfl rfl), Q_HBW, Q_BX, Q_SZ, Q_OT, fun h0_ => absurd ((hon 22 (by kernel_rfl)).symm.trans h0_) (by decide), fun _ h1_ => absurd ((hon 25 (by kernel_rfl)).symm.trans h1_) (by decide), Q_O2, fun h0_ _ => absurd ((hoff 28 (by kernel_rfl)).symm.trans h0_) (by decide), fun h0_ => absurd ((hoff 31 (by kernel_rfl)).symm.trans h0_) (by decide)⟩
      refine steps_cons ?_ ?_
      · rintro b a w' ⟨ha, Q_HBW, Q_BX, Q_SZ, Q_OT, Q_O0, Q_O1, Q_O2, Q_O3, Q_O4⟩ hb_ hon hoff
        refine ⟨_, rfl, fun K hK => ?_⟩
        have e91 : a.tmps[91]? = some (.pointer (some ⟨q, ci.toNat * 6 + 2, none⟩)) := by rw [ha]; exact putSel_on (e := (27, 91, .pointer (some ⟨q, ci.toNat * 6 + 2, none⟩))) 25 rfl rfl (hon 27 (by kernel_rfl)) rfl
        have e83 : a.tmps[83]? = some (.int .i64 sw.f0) := by rw [ha]; exact putSel_on (e := (17, 83, .int .i64 sw.f0)) 17 rfl rfl (hon 17 (by kernel_rfl)) rfl
        replace ha := Aside0.mk ha
        have HBW := Aside0.mk Q_HBW
        have BX := Aside0.mk Q_BX
        have SZ := Aside0.mk Q_SZ
        have OT := Aside0.mk Q_OT
        have O2 := Aside0.mk (Q_O2 (hon 25 (by kernel_rfl)) hb_)
        obtain ⟨⟨cells_, hcl_⟩, hcc_⟩ := O2.out.at55 HA1.out ci0 hix
        have c0 := hcc_ 2 _ rfl
        have f0 := blk_frozen hcl_ (ci.toNat * 6 + 2)
        clear hcl_ hcc_
        refine skip_ (w1 := w'.setCell ⟨q, ci.toNat * 6 + 2, none⟩ (.int .i64 sw.f0)) (by rfl) rfl (by go_simp) ?_
        refine hK.out _ _ ⟨(by rw [ha.out]; exact putSel_none (v := undef) rfl), below_set HBW.out HQB.out.1, ⟨blk_far (p := ⟨q, ci.toNat * 6 + 2, none⟩) BX.out.1 HN.out.1 _, blk_far (p := ⟨q, ci.toNat * 6 + 2, none⟩) BX.out.2.1 HN.out.2.1 _, blk_far (p := ⟨q, ci.toNat * 6 + 2, none⟩) BX.out.2.2 HN.out.2.2 _⟩, Nat.le_trans SZ.out (Nat.le_of_eq (setCell_size _ _ _).symm), OT.out.far (p := ⟨q, ci.toNat * 6 + 2, none⟩) (show g2 ≠ q from HNB.out) (fun k hk => show k ≠ q from by have h1 := HQB.out.2.2; have h2 := HIV.out.1; have h3 := hk.1; omega) _, fun h0_ => absurd ((hon 22 (by kernel_rfl)).symm.trans h0_) (by decide), fun _ h1_ => absurd ((hon 25 (by kernel_rfl)).symm.trans h1_) (by decide), fun _ h1_ => absurd ((up_self b 28).symm.trans h1_) (by decide), fun _ _ => O2.out.put55 HA1.out ci0 hix 2 _ (⟨sw.f2, sw.f3, sw.f0, sw.f3, sw.f4, sw.f5⟩ : S55) (by decide) rfl, fun h0_ => absurd ((hoff 31 (by kernel_rfl)).symm.trans h0_) (by decide)⟩
      refine steps_cons ?_ ?_
      · rintro b a w' ⟨ha, Q_HBW, Q_BX, Q_SZ, Q_OT, Q_O0, Q_O1, Q_O2, Q_O3, Q_O4⟩ hb_ hon hoff
        refine ⟨_, rfl, fun K hK => ?_⟩
        have e76 : a.tmps[76]? = some (.slice (some ⟨q, 0, none⟩) X1.ri.length X1.c1) := by rw [ha]; exact putSel_on (e := (10, 76, .slice (some ⟨q, 0, none⟩) X1.ri.length X1.c1)) 10 rfl rfl (hon 10 (by kernel_rfl)) rfl
        have e77 : a.tmps[77]? = some (.int .i64 ci) := by rw [ha]; exact putSel_on (e := (11, 77, .int .i64 ci)) 11 rfl rfl (hon 11 (by kernel_rfl)) rfl
        replace ha := Aside0.mk ha
        have HBW := Aside0.mk Q_HBW
        have BX := Aside0.mk Q_BX
        have SZ := Aside0.mk Q_SZ
        have OT := Aside0.mk Q_OT
        have O3 := Aside0.mk (Q_O3 (hon 28 (by kernel_rfl)) (hoff 31 (by kernel_rfl)))
        have k1_ : (0 : Int) ≤ ci := ci0
        have k2_ := hix
        refine value_ (w1 := w') (v := .pointer (some ⟨q, ci.toNat * 6, none⟩)) (by rfl) rfl ?_ ?_
        · go_simp
          (try simp only [i64_w])
          try rfl
        refine hK.out _ _ ⟨(by rw [ha.out]; exact putSel_upk 26 hb_ rfl rfl rfl), Q_HBW, Q_BX, Q_SZ, Q_OT, fun h0_ => absurd ((hon 22 (by kernel_rfl)).symm.trans h0_) (by decide), fun _ h1_ => absurd ((hon 25 (by kernel_rfl)).symm.trans h1_) (by decide), fun _ h1_ => absurd ((hon 28 (by kernel_rfl)).symm.trans h1_) (by decide), Q_O3, fun h0_ => absurd ((hoff 31 (by kernel_rfl)).symm.trans h0_) (by decide)⟩
      refine steps_cons ?_ ?_
      · rintro b a w' ⟨ha, Q_HBW, Q_BX, Q_SZ, Q_OT, Q_O0, Q_O1, Q_O2, Q_O3, Q_O4⟩ hb_ hon hoff
        refine ⟨_, rfl, fun K hK => ?_⟩
        have e92 : a.tmps[92]? = some (.pointer (some ⟨q, ci.toNat * 6, none⟩)) := by rw [ha]; exact putSel_on (e := (29, 92, .pointer (some ⟨q, ci.toNat * 6, none⟩))) 26 rfl rfl (hon 29 (by kernel_rfl)) rfl
        replace ha := Aside0.mk ha
        have HBW := Aside0.mk Q_HBW
        have BX := Aside0.mk Q_BX
        have SZ := Aside0.mk Q_SZ
        have OT := Aside0.mk Q_OT
        have O3 := Aside0.mk (Q_O3 (hon 28 (by kernel_rfl)) (hoff 31 (by kernel_rfl)))
        refine value_ (w1 := w') (v := .pointer (some ⟨q, ci.toNat * 6 + 3, none⟩)) (by rfl) rfl ?_ ?_
        · go_simp
          (try simp only [i64_w])
          try rfl
        refine hK.out _ _ ⟨(by rw [ha.out]; exact putSel_upk 27 hb_ rfl rfl rfl), Q_HBW, Q_BX, Q_SZ, Q_OT, fun h0_ => absurd ((hon 22 (by kernel_rfl)).symm.trans h0_) (by decide), fun _ h1_ => absurd ((hon 25 (by kernel_rfl)).symm.trans h1_) (by decide), fun _ h1_ => absurd ((hon 28 (by kernel_rfl)).symm.trans h1_) (by decide), Q_O3, fun h0_ => absurd ((hoff 31 (by kernel_rfl)).symm.trans h0_) (by decide)⟩
      refine steps_cons ?_ ?_
      · rintro b a w' ⟨ha, Q_HBW, Q_BX, Q_SZ, Q_OT, Q_O0, Q_O1, Q_O2, Q_O3, Q_O4⟩ hb_ hon hoff
        refine ⟨_, rfl, fun K hK => ?_⟩
        have e93 : a.tmps[93]? = some (.pointer (some ⟨q, ci.toNat * 6 + 3, none⟩)) := by rw [ha]; exact putSel_on (e := (30, 93, .pointer (some ⟨q, ci.toNat * 6 + 3, none⟩))) 27 rfl rfl (hon 30 (by kernel_rfl)) rfl
        have e85 : a.tmps[85]? = some (.int .i64 sw.f1) := by rw [ha]; exact putSel_on (e := (19, 85, .int .i64 sw.f1)) 19 rfl rfl (hon 19 (by kernel_rfl)) rfl
        replace ha := Aside0.mk ha
        have HBW := Aside0.mk Q_HBW
        have BX := Aside0.mk Q_BX
        have SZ := Aside0.mk Q_SZ
        have OT := Aside0.mk Q_OT
        have O3 := Aside0.mk (Q_O3 (hon 28 (by kernel_rfl)) hb_)
        obtain ⟨⟨cells_, hcl_⟩, hcc_⟩ := O3.out.at55 HA1.out ci0 hix
        have c0 := hcc_ 3 _ rfl
        have f0 := blk_frozen hcl_ (ci.toNat * 6 + 3)
        clear hcl_ hcc_
        refine skip_ (w1 := w'.setCell ⟨q, ci.toNat * 6 + 3, none⟩ (.int .i64 sw.f1)) (by rfl) rfl (by go_simp) ?_
        refine hK.out _ _ ⟨(by rw [ha.out]; exact putSel_none (v := undef) rfl), below_set HBW.out HQB.out.1, ⟨blk_far (p := ⟨q, ci.toNat * 6 + 3, none⟩) BX.out.1 HN.out.1 _, blk_far (p := ⟨q, ci.toNat * 6 + 3, none⟩) BX.out.2.1 HN.out.2.1 _, blk_far (p := ⟨q, ci.toNat * 6 + 3, none⟩) BX.out.2.2 HN.out.2.2 _⟩, Nat.le_trans SZ.out (Nat.le_of_eq (setCell_size _ _ _).symm), OT.out.far (p := ⟨q, ci.toNat * 6 + 3, none⟩) (show g2 ≠ q from HNB.out) (fun k hk => show k ≠ q from by have h1 := HQB.out.2.2; have h2 := HIV.out.1; have h3 := hk.1; omega) _, fun h0_ => absurd ((hon 22 (by kernel_rfl)).symm.trans h0_) (by decide), fun _ h1_ => absurd ((hon 25 (by kernel_rfl)).symm.trans h1_) (by decide), fun _ h1_ => absurd ((hon 28 (by kernel_rfl)).symm.trans h1_) (by decide), fun _ h1_ => absurd ((up_self b 31).symm.trans h1_) (by decide), fun _ => O3.out.put55 HA1.out ci0 hix 3 _ (⟨sw.f2, sw.f3, sw.f0, sw.f1, sw.f4, sw.f5⟩ : S55) (by decide) rfl⟩
      exact steps_nil
    · rintro b a w' hall ⟨ha, Q_HBW, Q_BX, Q_SZ, Q_OT, Q_O0, Q_O1, Q_O2, Q_O3, Q_O4⟩
      clear BX HBW O0 OT SZ
      have hb0_ := hall 0 (by kernel_rfl)
      have hb1_ := hall 1 (by kernel_rfl)
      have hb2_ := hall 2 (by kernel_rfl)
      have hb3_ := hall 3 (by kernel_rfl)
      have hb4_ := hall 4 (by kernel_rfl)
      have hb5_ := hall 5 (by kernel_rfl)
      have hb6_ := hall 6 (by kernel_rfl)
      have hb7_ := hall 7 (by kernel_rfl)
      have hb8_ := hall 8 (by kernel_rfl)
      have hb9_ := hall 9 (by kernel_rfl)
      have hb10_ := hall 10 (by kernel_rfl)
      have hb11_ := hall 11 (by kernel_rfl)
      have hb12_ := hall 12 (by kernel_rfl)
      have hb13_ := hall 13 (by kernel_rfl)
      have hb14_ := hall 14 (by kernel_rfl)
      have hb15_ := hall 15 (by kernel_rfl)
      have hb16_ := hall 16 (by kernel_rfl)
      have hb17_ := hall 17 (by kernel_rfl)
      have hb18_ := hall 18 (by kernel_rfl)
      have hb19_ := hall 19 (by kernel_rfl)
      have hb20_ := hall 20 (by kernel_rfl)
      have hb21_ := hall 21 (by kernel_rfl)
      have hb22_ := hall 22 (by kernel_rfl)
      have hb23_ := hall 23 (by kernel_rfl)
      have hb24_ := hall 24 (by kernel_rfl)
      have hb25_ := hall 25 (by kernel_rfl)
      have hb26_ := hall 26 (by kernel_rfl)
      have hb27_ := hall 27 (by kernel_rfl)
      have hb28_ := hall 28 (by kernel_rfl)
      have hb29_ := hall 29 (by kernel_rfl)
      have hb30_ := hall 30 (by kernel_rfl)
      have hb31_ := hall 31 (by kernel_rfl)
      subst ha
      simp only [putSel, hb0_, hb1_, hb2_, hb3_, hb4_, hb5_, hb6_, hb7_, hb8_, hb9_, hb10_, hb11_, hb12_, hb13_, hb14_, hb15_, hb16_, hb17_, hb18_, hb19_, hb20_, hb21_, hb22_, hb23_, hb24_, hb25_, hb26_, hb27_, hb28_, hb29_, hb30_, hb31_, if_true, Act.put, List.setIfInBounds_toArray, List.set_cons_zero, List.set_cons_succ]
      have HBW := Aside0.mk Q_HBW
      clear Q_HBW
      have BX := Aside0.mk Q_BX
      clear Q_BX
      have SZ := Aside0.mk Q_SZ
      clear Q_SZ
      have OT := Aside0.mk Q_OT
      clear Q_OT
      clear Q_O0
      clear Q_O1
      clear Q_O2
      clear Q_O3
      have O4 := Aside0.mk (Q_O4 hb31_)
      clear Q_O4
      clear hall hb0_ hb1_ hb2_ hb3_ hb4_ hb5_ hb6_ hb7_ hb8_ hb9_ hb10_ hb11_ hb12_ hb13_ hb14_ hb15_ hb16_ hb17_ hb18_ hb19_ hb20_ hb21_ hb22_ hb23_ hb24_ hb25_ hb26_ hb27_ hb28_ hb29_ hb30_ hb31_
      have HB := HBW
      have HBX := Aside0.mk BX.out.1
      have HBV := Aside0.mk BX.out.2.1
      have CQ2 := OT
      have HIV2 := Aside0.mk (show hi2 ≤ w'.heap.size from Nat.le_trans HIV.out.2.2.1 SZ.out)
      obtain ⟨Y1, hY1⟩ : ∃ Y1 : Rv, Y1 = { X1 with ri := X1.ri.set ci.toNat (⟨sw.f2, sw.f3, sw.f0, sw.f1, sw.f4, sw.f5⟩ : S55) } := ⟨_, rfl⟩
      rw [← hY1] at O4
      have HI1 := Aside0.mk O4.out.inn
      have HB1 := Aside0.mk (show w'.heap[g1]? = some (.cells #[.slice Y1.A0 Y1.st.length Y1.c0, .slice Y1.A1 Y1.ri.length Y1.c1, .slice Y1.A2 Y1.ca.length Y1.c2, .slice Y1.A3 Y1.su.length Y1.c3] 27 (0, 0)) from by rw [hY1]; simp only [List.length_set, HA1.out]; exact BX.out.2.2)
      have HLW := Aside0.mk (ends_law (R := a0) (X := Y1) (a := pa) (b := pb) (i := ci) HC.out HF.out HP.out.1 HP.out.2.1 HP.out.2.2 hc1 hu1 ci0 ci1 (by rw [hY1]; exact HE1.out.1) (by rw [HSW.out, hY1]; show X1.ri.set _ _ = _; rw [HE1.out.2.1]) (by rw [hY1]; exact HE1.out.2.2.1) (by rw [hY1]; exact HE1.out.2.2.2))
      clear hY1 O4 BX OT HBW SZ HN HA1 HQB HNB hix
      have d0 := (blk_cell HBX.out 0).trans rfl
      have d1 := (blk_cell HBX.out 1).trans rfl
      have d2 := (blk_cell HBX.out 2).trans rfl
      have d3 := (blk_cell HBX.out 3).trans rfl
      have x0_ := (blk_cell HB1.out 0).trans rfl
      have x1_ := (blk_cell HB1.out 1).trans rfl
      have x2_ := (blk_cell HB1.out 2).trans rfl
      have x3_ := (blk_cell HB1.out 3).trans rfl
      go_wp2_with fail
      refine (alike_c a0 Y1 pa pb _ (HI.out.below HB.out) HI1.out HF.out HLW.out.1 HLW.out.2).mono ?_
      rintro e w7_ ⟨rfl, hb_⟩
      replace HB := Aside0.mk (bt HB.out hb_)
      replace HBX := Aside0.mk (blk_below HBX.out hb_)
      replace HI1 := Aside0.mk (HI1.out.below hb_)
      replace CQ2 := Aside0.mk (CQ2.out.below hb_)
      replace HB1 := Aside0.mk (blk_below HB1.out hb_)
      replace HBV := Aside0.mk (blk_below HBV.out hb_)
      clear x0_ x1_ x2_ x3_
      clear d0 d1 d2 d3
      clear hb_ HI1 HB1 HLW HE1
      have HBD := Aside0.mk (ridge_bd (ridge_ok HC.out (cWl sw) (by rw [← HSW.out]; exact List.mem_map.2 ⟨_, ri_mem ci0 ci1, rfl⟩)))
      have d0 := (blk_cell HBX.out 0).trans rfl
      have d1 := (blk_cell HBX.out 1).trans rfl
      have d2 := (blk_cell HBX.out 2).trans rfl
      have d3 := (blk_cell HBX.out 3).trans rfl
      have v0_ := (blk_cell HBV.out 0).trans rfl
      have v1_ := (blk_cell HBV.out 1).trans rfl
      have v2_ := (blk_cell HBV.out 2).trans rfl
      have v3_ := (blk_cell HBV.out 3).trans rfl
      have v4_ := (blk_cell HBV.out 4).trans rfl
      have v5_ := (blk_cell HBV.out 5).trans rfl
      go_upto_region 11 with (fail)
      have hm5 : 0 ≤ a3 % 5 ∧ a3 % 5 < 5 := ⟨Int.emod_nonneg _ (by decide), Int.emod_lt_of_pos _ (by decide)⟩
      generalize hm_ : a3 % 5 = m5 at *
      clear hm_
      obtain ⟨hb0, hb1, hb2, hb3⟩ : (0 ≤ sw.f0 ∧ sw.f0 ≤ 100) ∧ (0 ≤ sw.f1 ∧ sw.f1 ≤ 100) ∧ (0 ≤ sw.f2 ∧ sw.f2 ≤ 100) ∧ 0 ≤ sw.f3 ∧ sw.f3 ≤ 100 := ⟨HBD.out.1.1, HBD.out.1.2, HBD.out.2.1, HBD.out.2.2⟩
      by_cases hm0 : (sw.f2 - sw.f0).tmod (2 + m5) = 0
      rotate_left
      · have t0 : ((sw.f2 - sw.f0).tmod (2 + m5) != 0) = true := by simpa using hm0
        go_wp2_with fail
        refine (awake_c _).mono ?_
        rintro e w8_ ⟨rfl, hb_⟩
        replace HB := Aside0.mk (bt HB.out hb_)
        replace HBX := Aside0.mk (blk_below HBX.out hb_)
        replace CQ2 := Aside0.mk (CQ2.out.below hb_)
        replace HBV := Aside0.mk (blk_below HBV.out hb_)
        clear v0_ v1_ v2_ v3_ v4_ v5_
        clear d0 d1 d2 d3
        clear hb_
        go_wp2_with fail
        go_ret
        exact ⟨ret_bool rfl, HB.out⟩
      by_cases hm1 : (sw.f3 - sw.f1).tmod (2 + m5) = 0
      rotate_left
      · have t1 : ((sw.f3 - sw.f1).tmod (2 + m5) != 0) = true := by simpa using hm1
        have t0 : ((sw.f2 - sw.f0).tmod (2 + m5) != 0) = false := by simp [hm0]
        go_wp2_with fail
        refine (awake_c _).mono ?_
        rintro e w8_ ⟨rfl, hb_⟩
        replace HB := Aside0.mk (bt HB.out hb_)
        replace HBX := Aside0.mk (blk_below HBX.out hb_)
        replace CQ2 := Aside0.mk (CQ2.out.below hb_)
        replace HBV := Aside0.mk (blk_below HBV.out hb_)
        clear v0_ v1_ v2_ v3_ v4_ v5_
        clear d0 d1 d2 d3
        clear hb_
        go_wp2_with fail
        go_ret
        exact ⟨ret_bool rfl, HB.out⟩
      have t0 : ((sw.f2 - sw.f0).tmod (2 + m5) != 0) = false := by simp [hm0]
      have t1 : ((sw.f3 - sw.f1).tmod (2 + m5) != 0) = false := by simp [hm1]
      go_upto_region 13 with (fail)
      have HM := Aside0.mk (And.intro hm0 hm1)
      clear t0 t1 hm0 hm1
      have hk8 : 0 ≤ a3 / 8 % (2 + m5 - 1) ∧ a3 / 8 % (2 + m5 - 1) < 2 + m5 - 1 := ⟨Int.emod_nonneg _ (by omega), Int.emod_lt_of_pos _ (by omega)⟩
      have hk9 : 0 ≤ a3 / 8 ∧ a3 / 8 ≤ 31 := by omega
      go_upto_region 14 with (fail)
      generalize hk_ : a3 / 8 % (2 + m5 - 1) = k8 at *
      clear hk_ hk9
      have HD0 := Aside0.mk (Int.mul_tdiv_add_tmod (sw.f2 - sw.f0) (2 + m5))
      have HD1 := Aside0.mk (Int.mul_tdiv_add_tmod (sw.f3 - sw.f1) (2 + m5))
      rw [HM.out.1, Int.add_zero, Int.mul_comm] at HD0
      rw [HM.out.2, Int.add_zero, Int.mul_comm] at HD1
      generalize hd0_ : (sw.f2 - sw.f0).tdiv (2 + m5) = d0_ at *
      generalize hd1_ : (sw.f3 - sw.f1).tdiv (2 + m5) = d1_ at *
      have HT0 := Aside0.mk hd0_
      have HT1 := Aside0.mk hd1_
      clear hd0_ hd1_
      have bu := between (x := sw.f0) (y := sw.f2) (d := d0_) (n := (2 + m5)) (k := (1 + k8)) (by omega) (by omega) hb0 hb2 HD0.out.symm
      have bv := between (x := sw.f1) (y := sw.f3) (d := d1_) (n := (2 + m5)) (k := (1 + k8)) (by omega) (by omega) hb1 hb3 HD1.out.symm
      have HWR := Aside0.mk (And.intro (And.intro (wr64 (n := sw.f2 - sw.f0) (by omega) (by omega)) (And.intro (wr64 (n := d0_ * (1 + k8)) (by omega) (by omega)) (wr64 (n := sw.f0 + d0_ * (1 + k8)) (by omega) (by omega)))) (And.intro (wr64 (n := sw.f3 - sw.f1) (by omega) (by omega)) (And.intro (wr64 (n := d1_ * (1 + k8)) (by omega) (by omega)) (wr64 (n := sw.f1 + d1_ * (1 + k8)) (by omega) (by omega)))))
      have HDV := Aside0.mk (div_bd (d := d0_) (n := (2 + m5)) (e := sw.f2 - sw.f0) (by omega) HD0.out.symm (by omega))
      have HDW := Aside0.mk (div_bd (d := d1_) (n := (2 + m5)) (e := sw.f3 - sw.f1) (by omega) HD1.out.symm (by omega))
      obtain ⟨u, hu⟩ : ∃ u : Int, u = sw.f0 + d0_ * (1 + k8) := ⟨_, rfl⟩
      obtain ⟨v, hv⟩ : ∃ v : Int, v = sw.f1 + d1_ * (1 + k8) := ⟨_, rfl⟩
      have HUV := Aside0.mk (And.intro hu hv)
      clear hu hv bu bv
      clear v0_ v1_ v2_ v3_ v4_ v5_
      clear d0 d1 d2 d3
      refine start_ (n := 26) (S := fun w' => True) (ds := []) #[false, false, false, false, false, false, false, false, false, false, false, false, false, false, false, false, false, false, false, false, false, false, false, false, false, false] (by kernel_rfl) rfl rfl trivial (fun hHeld => ?_)
      refine with_tabW divided.tab14 divided.bits14 (fun HT_ HW_ => ?_)
      have BW := Aside0.mk (below_drew (Below.refl w7_.heap.size w7_))
      generalize w7_.drew = we_ at *
      refine inv_at [0, 1, 2, 3, 4, 5, 6, 7, 8, 9, 10, 11, 12, 13, 14, 15, 16, 17, 18, 19, 20, 21, 22, 23, 24, 25] (fun a0_ b a w' => a = putSel a0_ b [(0, 130, .pointer (some ⟨gw, 0, none⟩)), (1, 131, .int .i64 sw.f0), (2, 132, .pointer (some ⟨gw, 2, none⟩)), (3, 133, .int .i64 sw.f2), (4, 134, .pointer (some ⟨gw, 0, none⟩)), (5, 135, .int .i64 sw.f0), (6, 136, .int .i64 (sw.f2 - sw.f0)), (7, 137, .int .i64 (2 + m5)), (8, 138, .int .i64 d0_), (9, 139, .int .i64 (1 + k8)), (10, 140, .int .i64 (d0_ * (1 + k8))), (11, 141, .int .i64 u), (12, 142, .pointer (some ⟨gw, 1, none⟩)), (13, 143, .int .i64 sw.f1), (14, 144, .pointer (some ⟨gw, 3, none⟩)), (15, 145, .int .i64 sw.f3), (16, 146, .pointer (some ⟨gw, 1, none⟩)), (17, 147, .int .i64 sw.f1), (18, 148, .int .i64 (sw.f3 - sw.f1)), (19, 149, .int .i64 (2 + m5)), (20, 150, .int .i64 d1_), (21, 151, .int .i64 (1 + k8)), (22, 152, .int .i64 (d1_ * (1 + k8))), (23, 153, .int .i64 v), (24, 17, .int .i64 u), (25, 18, .int .i64 v)] ∧ (Below w7_.heap.size w7_ w')) HT_.out HW_.out (by kernel_rfl) (by kernel_rfl) ?_ ?_ ?_
      · exact ⟨by simp only [putSel, Bool.false_eq_true, if_false], BW.out⟩
      · skip
        clear BW
        refine steps_cons ?_ ?_
        · rintro b a w' ⟨ha, Q_BW⟩ hb_ hon hoff
          refine ⟨_, rfl, fun K hK => ?_⟩
          have e12 : a.tmps[12]? = some (.pointer (some ⟨gw, 0, none⟩)) := by rw [ha]; exact (putSel_off rfl).trans rfl
          replace ha := Aside0.mk ha
          have BW := Aside0.mk Q_BW
          refine value_ (w1 := w') (v := .pointer (some ⟨gw, 0, none⟩)) (by rfl) rfl ?_ ?_
          · go_simp
            (try simp only [i64_w])
            try rfl
          refine hK.out _ _ ⟨(by rw [ha.out]; exact putSel_upk 0 hb_ rfl rfl rfl), Q_BW⟩
        refine steps_cons ?_ ?_
        · rintro b a w' ⟨ha, Q_BW⟩ hb_ hon hoff
          refine ⟨_, rfl, fun K hK => ?_⟩
          have e130 : a.tmps[130]? = some (.pointer (some ⟨gw, 0, none⟩)) := by rw [ha]; exact putSel_on (e := (0, 130, .pointer (some ⟨gw, 0, none⟩))) 0 rfl rfl (hon 0 (by kernel_rfl)) rfl
          replace ha := Aside0.mk ha
          have BW := Aside0.mk Q_BW
          have k0_ := (blk_cell (blk_below HBV.out BW.out) 0).trans rfl
          refine value_ (w1 := w') (v := .int .i64 sw.f0) (by rfl) rfl ?_ ?_
          · go_simp
            (try simp only [i64_w])
            try rfl
          refine hK.out _ _ ⟨(by rw [ha.out]; exact putSel_upk 1 hb_ rfl rfl rfl), Q_BW⟩
        refine steps_cons ?_ ?_
        · rintro b a w' ⟨ha, Q_BW⟩ hb_ hon hoff
          refine ⟨_, rfl, fun K hK => ?_⟩
          have e12 : a.tmps[12]? = some (.pointer (some ⟨gw, 0, none⟩)) := by rw [ha]; exact (putSel_off rfl).trans rfl
          replace ha := Aside0.mk ha
          have BW := Aside0.mk Q_BW
          refine value_ (w1 := w') (v := .pointer (some ⟨gw, 2, none⟩)) (by rfl) rfl ?_ ?_
          · go_simp
            (try simp only [i64_w])
            try rfl
          refine hK.out _ _ ⟨(by rw [ha.out]; exact putSel_upk 2 hb_ rfl rfl rfl), Q_BW⟩
        refine steps_cons ?_ ?_
        · rintro b a w' ⟨ha, Q_BW⟩ hb_ hon hoff
          refine ⟨_, rfl, fun K hK => ?_⟩
          have e132 : a.tmps[132]? = some (.pointer (some ⟨gw, 2, none⟩)) := by rw [ha]; exact putSel_on (e := (2, 132, .pointer (some ⟨gw, 2, none⟩))) 2 rfl rfl (hon 2 (by kernel_rfl)) rfl
          replace ha := Aside0.mk ha
          have BW := Aside0.mk Q_BW
          have k0_ := (blk_cell (blk_below HBV.out BW.out) 2).trans rfl
          refine value_ (w1 := w') (v := .int .i64 sw.f2) (by rfl) rfl ?_ ?_
          · go_simp
            (try simp only [i64_w])
            try rfl
          refine hK.out _ _ ⟨(by rw [ha.out]; exact putSel_upk 3 hb_ rfl rfl rfl), Q_BW⟩
        refine steps_cons ?_ ?_
        · rintro b a w' ⟨ha, Q_BW⟩ hb_ hon hoff
          refine ⟨_, rfl, fun K hK => ?_⟩
          have e12 : a.tmps[12]? = some (.pointer (some ⟨gw, 0, none⟩)) := by rw [ha]; exact (putSel_off rfl).trans rfl
          replace ha := Aside0.mk ha
          have BW := Aside0.mk Q_BW
          refine value_ (w1 := w') (v := .pointer (some ⟨gw, 0, none⟩)) (by rfl) rfl ?_ ?_
          · go_simp
            (try simp only [i64_w])
            try rfl
          refine hK.out _ _ ⟨(by rw [ha.out]; exact putSel_upk 4 hb_ rfl rfl rfl), Q_BW⟩
        refine steps_cons ?_ ?_
        · rintro b a w' ⟨ha, Q_BW⟩ hb_ hon hoff
          refine ⟨_, rfl, fun K hK => ?_⟩
          have e134 : a.tmps[134]? = some (.pointer (some ⟨gw, 0, none⟩)) := by rw [ha]; exact putSel_on (e := (4, 134, .pointer (some ⟨gw, 0, none⟩))) 4 rfl rfl (hon 4 (by kernel_rfl)) rfl
          replace ha := Aside0.mk ha
          have BW := Aside0.mk Q_BW
          have k0_ := (blk_cell (blk_below HBV.out BW.out) 0).trans rfl
          refine value_ (w1 := w') (v := .int .i64 sw.f0) (by rfl) rfl ?_ ?_
          · go_simp
            (try simp only [i64_w])
            try rfl
          refine hK.out _ _ ⟨(by rw [ha.out]; exact putSel_upk 5 hb_ rfl rfl rfl), Q_BW⟩
        refine steps_cons ?_ ?_
        · rintro b a w' ⟨ha, Q_BW⟩ hb_ hon hoff
          refine ⟨_, rfl, fun K hK => ?_⟩
          have e133 : a.tmps[133]? = some (.int .i64 sw.f2) := by rw [ha]; exact putSel_on (e := (3, 133, .int .i64 sw.f2)) 3 rfl rfl (hon 3 (by kernel_rfl)) rfl
          have e135 : a.tmps[135]? = some (.int .i64 sw.f0) := by rw [ha]; exact putSel_on (e := (5, 135, .int .i64 sw.f0)) 5 rfl rfl (hon 5 (by kernel_rfl)) rfl
          replace ha := Aside0.mk ha
          have BW := Aside0.mk Q_BW
          refine value_ (w1 := w') (v := .int .i64 (sw.f2 - sw.f0)) (by rfl) rfl ?_ ?_
          · go_simp
            (try simp only [i64_w])
            exact HWR.out.1.1
          refine hK.out _ _ ⟨(by rw [ha.out]; exact putSel_upk 6 hb_ rfl rfl rfl), BW.out⟩
        refine steps_cons ?_ ?_
        · rintro b a w' ⟨ha, Q_BW⟩ hb_ hon hoff
          refine ⟨_, rfl, fun K hK => ?_⟩
          have e15 : a.tmps[15]? = some (.int .i64 (2 + m5)) := by rw [ha]; exact (putSel_off rfl).trans rfl
          replace ha := Aside0.mk ha
          have BW := Aside0.mk Q_BW
          refine value_ (w1 := w') (v := .int .i64 (2 + m5)) (by rfl) rfl ?_ ?_
          · go_simp
            (try simp only [i64_w])
            try rfl
          refine hK.out _ _ ⟨(by rw [ha.out]; exact putSel_upk 7 hb_ rfl rfl rfl), Q_BW⟩
        refine steps_cons ?_ ?_
        · rintro b a w' ⟨ha, Q_BW⟩ hb_ hon hoff
          refine ⟨_, rfl, fun K hK => ?_⟩
          have e136 : a.tmps[136]? = some (.int .i64 (sw.f2 - sw.f0)) := by rw [ha]; exact putSel_on (e := (6, 136, .int .i64 (sw.f2 - sw.f0))) 6 rfl rfl (hon 6 (by kernel_rfl)) rfl
          have e137 : a.tmps[137]? = some (.int .i64 (2 + m5)) := by rw [ha]; exact putSel_on (e := (7, 137, .int .i64 (2 + m5))) 7 rfl rfl (hon 7 (by kernel_rfl)) rfl
          replace ha := Aside0.mk ha
          have BW := Aside0.mk Q_BW
          refine value_ (w1 := w') (v := .int .i64 (d0_)) (by rfl) rfl ?_ ?_
          · have k0_ : ¬ ((2 + m5) = 0) := by omega
            go_simp
            (try simp only [i64_w])
            rw [HT0.out]
            exact wr64 (by have := HDV.out; omega) (by have := HDV.out; omega)
          refine hK.out _ _ ⟨(by rw [ha.out]; exact putSel_upk 8 hb_ rfl rfl rfl), BW.out⟩
        refine steps_cons ?_ ?_
        · rintro b a w' ⟨ha, Q_BW⟩ hb_ hon hoff
          refine ⟨_, rfl, fun K hK => ?_⟩
          have e16 : a.tmps[16]? = some (.int .i64 (1 + k8)) := by rw [ha]; exact (putSel_off rfl).trans rfl
          replace ha := Aside0.mk ha
          have BW := Aside0.mk Q_BW
          refine value_ (w1 := w') (v := .int .i64 (1 + k8)) (by rfl) rfl ?_ ?_
          · go_simp
            (try simp only [i64_w])
            try rfl
          refine hK.out _ _ ⟨(by rw [ha.out]; exact putSel_upk 9 hb_ rfl rfl rfl), Q_BW⟩
        refine steps_cons ?_ ?_
        · rintro b a w' ⟨ha, Q_BW⟩ hb_ hon hoff
          refine ⟨_, rfl, fun K hK => ?_⟩
          have e138 : a.tmps[138]? = some (.int .i64 d0_) := by rw [ha]; exact putSel_on (e := (8, 138, .int .i64 d0_)) 8 rfl rfl (hon 8 (by kernel_rfl)) rfl
          have e139 : a.tmps[139]? = some (.int .i64 (1 + k8)) := by rw [ha]; exact putSel_on (e := (9, 139, .int .i64 (1 + k8))) 9 rfl rfl (hon 9 (by kernel_rfl)) rfl
          replace ha := Aside0.mk ha
          have BW := Aside0.mk Q_BW
          refine value_ (w1 := w') (v := .int .i64 (d0_ * (1 + k8))) (by rfl) rfl ?_ ?_
          · go_simp
            (try simp only [i64_w])
            exact HWR.out.1.2.1
          refine hK.out _ _ ⟨(by rw [ha.out]; exact putSel_upk 10 hb_ rfl rfl rfl), BW.out⟩
        refine steps_cons ?_ ?_
        · rintro b a w' ⟨ha, Q_BW⟩ hb_ hon hoff
          refine ⟨_, rfl, fun K hK => ?_⟩
          have e131 : a.tmps[131]? = some (.int .i64 sw.f0) := by rw [ha]; exact putSel_on (e := (1, 131, .int .i64 sw.f0)) 1 rfl rfl (hon 1 (by kernel_rfl)) rfl
          have e140 : a.tmps[140]? = some (.int .i64 (d0_ * (1 + k8))) := by rw [ha]; exact putSel_on (e := (10, 140, .int .i64 (d0_ * (1 + k8)))) 10 rfl rfl (hon 10 (by kernel_rfl)) rfl
          replace ha := Aside0.mk ha
          have BW := Aside0.mk Q_BW
          refine value_ (w1 := w') (v := .int .i64 (u)) (by rfl) rfl ?_ ?_
          · rw [HUV.out.1]
            go_simp
            (try simp only [i64_w])
            exact HWR.out.1.2.2
          refine hK.out _ _ ⟨(by rw [ha.out]; exact putSel_upk 11 hb_ rfl rfl rfl), BW.out⟩
        refine steps_cons ?_ ?_
        · rintro b a w' ⟨ha, Q_BW⟩ hb_ hon hoff
          refine ⟨_, rfl, fun K hK => ?_⟩
          have e12 : a.tmps[12]? = some (.pointer (some ⟨gw, 0, none⟩)) := by rw [ha]; exact (putSel_off rfl).trans rfl
          replace ha := Aside0.mk ha
          have BW := Aside0.mk Q_BW
          refine value_ (w1 := w') (v := .pointer (some ⟨gw, 1, none⟩)) (by rfl) rfl ?_ ?_
          · go_simp
            (try simp only [i64_w])
            try rfl
          refine hK.out _ _ ⟨(by rw [ha.out]; exact putSel_upk 12 hb_ rfl rfl rfl), Q_BW⟩
        refine steps_cons ?_ ?_
        · rintro b a w' ⟨ha, Q_BW⟩ hb_ hon hoff
          refine ⟨_, rfl, fun K hK => ?_⟩
          have e142 : a.tmps[142]? = some (.pointer (some ⟨gw, 1, none⟩)) := by rw [ha]; exact putSel_on (e := (12, 142, .pointer (some ⟨gw, 1, none⟩))) 12 rfl rfl (hon 12 (by kernel_rfl)) rfl
          replace ha := Aside0.mk ha
          have BW := Aside0.mk Q_BW
          have k0_ := (blk_cell (blk_below HBV.out BW.out) 1).trans rfl
          refine value_ (w1 := w') (v := .int .i64 sw.f1) (by rfl) rfl ?_ ?_
          · go_simp
            (try simp only [i64_w])
            try rfl
          refine hK.out _ _ ⟨(by rw [ha.out]; exact putSel_upk 13 hb_ rfl rfl rfl), Q_BW⟩
        refine steps_cons ?_ ?_
        · rintro b a w' ⟨ha, Q_BW⟩ hb_ hon hoff
          refine ⟨_, rfl, fun K hK => ?_⟩
          have e12 : a.tmps[12]? = some (.pointer (some ⟨gw, 0, none⟩)) := by rw [ha]; exact (putSel_off rfl).trans rfl
          replace ha := Aside0.mk ha
          have BW := Aside0.mk Q_BW
          refine value_ (w1 := w') (v := .pointer (some ⟨gw, 3, none⟩)) (by rfl) rfl ?_ ?_
          · go_simp
            (try simp only [i64_w])
            try rfl
          refine hK.out _ _ ⟨(by rw [ha.out]; exact putSel_upk 14 hb_ rfl rfl rfl), Q_BW⟩
        refine steps_cons ?_ ?_
        · rintro b a w' ⟨ha, Q_BW⟩ hb_ hon hoff
          refine ⟨_, rfl, fun K hK => ?_⟩
          have e144 : a.tmps[144]? = some (.pointer (some ⟨gw, 3, none⟩)) := by rw [ha]; exact putSel_on (e := (14, 144, .pointer (some ⟨gw, 3, none⟩))) 14 rfl rfl (hon 14 (by kernel_rfl)) rfl
          replace ha := Aside0.mk ha
          have BW := Aside0.mk Q_BW
          have k0_ := (blk_cell (blk_below HBV.out BW.out) 3).trans rfl
          refine value_ (w1 := w') (v := .int .i64 sw.f3) (by rfl) rfl ?_ ?_
          · go_simp
            (try simp only [i64_w])
            try rfl
          refine hK.out _ _ ⟨(by rw [ha.out]; exact putSel_upk 15 hb_ rfl rfl rfl), Q_BW⟩
        refine steps_cons ?_ ?_
        · rintro b a w' ⟨ha, Q_BW⟩ hb_ hon hoff
          refine ⟨_, rfl, fun K hK => ?_⟩
          have e12 : a.tmps[12]? = some (.pointer (some ⟨gw, 0, none⟩)) := by rw [ha]; exact (putSel_off rfl).trans rfl
          replace ha := Aside0.mk ha
          have BW := Aside0.mk Q_BW
          refine value_ (w1 := w') (v := .pointer (some ⟨gw, 1, none⟩)) (by rfl) rfl ?_ ?_
          · go_simp
            (try simp only [i64_w])
            try rfl
          refine hK.out _ _ ⟨(by rw [ha.out]; exact putSel_upk 16 hb_ rfl rfl rfl), Q_BW⟩
        refine steps_cons ?_ ?_
        · rintro b a w' ⟨ha, Q_BW⟩ hb_ hon hoff
          refine ⟨_, rfl, fun K hK => ?_⟩
          have e146 : a.tmps[146]? = some (.pointer (some ⟨gw, 1, none⟩)) := by rw [ha]; exact putSel_on (e := (16, 146, .pointer (some ⟨gw, 1, none⟩))) 16 rfl rfl (hon 16 (by kernel_rfl)) rfl
          replace ha := Aside0.mk ha
          have BW := Aside0.mk Q_BW
          have k0_ := (blk_cell (blk_below HBV.out BW.out) 1).trans rfl
          refine value_ (w1 := w') (v := .int .i64 sw.f1) (by rfl) rfl ?_ ?_
          · go_simp
            (try simp only [i64_w])
            try rfl
          refine hK.out _ _ ⟨(by rw [ha.out]; exact putSel_upk 17 hb_ rfl rfl rfl), Q_BW⟩
        refine steps_cons ?_ ?_
        · rintro b a w' ⟨ha, Q_BW⟩ hb_ hon hoff
          refine ⟨_, rfl, fun K hK => ?_⟩
          have e145 : a.tmps[145]? = some (.int .i64 sw.f3) := by rw [ha]; exact putSel_on (e := (15, 145, .int .i64 sw.f3)) 15 rfl rfl (hon 15 (by kernel_rfl)) rfl
          have e147 : a.tmps[147]? = some (.int .i64 sw.f1) := by rw [ha]; exact putSel_on (e := (17, 147, .int .i64 sw.f1)) 17 rfl rfl (hon 17 (by kernel_rfl)) rfl
          replace ha := Aside0.mk ha
          have BW := Aside0.mk Q_BW
          refine value_ (w1 := w') (v := .int .i64 (sw.f3 - sw.f1)) (by rfl) rfl ?_ ?_
          · go_simp
            (try simp only [i64_w])
            exact HWR.out.2.1
          refine hK.out _ _ ⟨(by rw [ha.out]; exact putSel_upk 18 hb_ rfl rfl rfl), BW.out⟩
        refine steps_cons ?_ ?_
        · rintro b a w' ⟨ha, Q_BW⟩ hb_ hon hoff
          refine ⟨_, rfl, fun K hK => ?_⟩
          have e15 : a.tmps[15]? = some (.int .i64 (2 + m5)) := by rw [ha]; exact (putSel_off rfl).trans rfl
          replace ha := Aside0.mk ha
          have BW := Aside0.mk Q_BW
          refine value_ (w1 := w') (v := .int .i64 (2 + m5)) (by rfl) rfl ?_ ?_
          · go_simp
            (try simp only [i64_w])
            try rfl
          refine hK.out _ _ ⟨(by rw [ha.out]; exact putSel_upk 19 hb_ rfl rfl rfl), Q_BW⟩
        refine steps_cons ?_ ?_
        · rintro b a w' ⟨ha, Q_BW⟩ hb_ hon hoff
          refine ⟨_, rfl, fun K hK => ?_⟩
          have e148 : a.tmps[148]? = some (.int .i64 (sw.f3 - sw.f1)) := by rw [ha]; exact putSel_on (e := (18, 148, .int .i64 (sw.f3 - sw.f1))) 18 rfl rfl (hon 18 (by kernel_rfl)) rfl
          have e149 : a.tmps[149]? = some (.int .i64 (2 + m5)) := by rw [ha]; exact putSel_on (e := (19, 149, .int .i64 (2 + m5))) 19 rfl rfl (hon 19 (by kernel_rfl)) rfl
          replace ha := Aside0.mk ha
          have BW := Aside0.mk Q_BW
          refine value_ (w1 := w') (v := .int .i64 (d1_)) (by rfl) rfl ?_ ?_
          · have k0_ : ¬ ((2 + m5) = 0) := by omega
            go_simp
            (try simp only [i64_w])
            rw [HT1.out]
            exact wr64 (by have := HDW.out; omega) (by have := HDW.out; omega)
          refine hK.out _ _ ⟨(by rw [ha.out]; exact putSel_upk 20 hb_ rfl rfl rfl), BW.out⟩
        refine steps_cons ?_ ?_
        · rintro b a w' ⟨ha, Q_BW⟩ hb_ hon hoff
          refine ⟨_, rfl, fun K hK => ?_⟩
          have e16 : a.tmps[16]? = some (.int .i64 (1 + k8)) := by rw [ha]; exact (putSel_off rfl).trans rfl
          replace ha := Aside0.mk ha
          have BW := Aside0.mk Q_BW
          refine value_ (w1 := w') (v := .int .i64 (1 + k8)) (by rfl) rfl ?_ ?_
          · go_simp
            (try simp only [i64_w])
            try rfl
          refine hK.out _ _ ⟨(by rw [ha.out]; exact putSel_upk 21 hb_ rfl rfl rfl), Q_BW⟩
        refine steps_cons ?_ ?_
        · rintro b a w' ⟨ha, Q_BW⟩ hb_ hon hoff
          refine ⟨_, rfl, fun K hK => ?_⟩
          have e150 : a.tmps[150]? = some (.int .i64 d1_) := by rw [ha]; exact putSel_on (e := (20, 150, .int .i64 d1_)) 20 rfl rfl (hon 20 (by kernel_rfl)) rfl
          have e151 : a.tmps[151]? = some (.int .i64 (1 + k8)) := by rw [ha]; exact putSel_on (e := (21, 151, .int .i64 (1 + k8))) 21 rfl rfl (hon 21 (by kernel_rfl)) rfl
          replace ha := Aside0.mk ha
          have BW := Aside0.mk Q_BW
          refine value_ (w1 := w') (v := .int .i64 (d1_ * (1 + k8))) (by rfl) rfl ?_ ?_
          · go_simp
            (try simp only [i64_w])
            exact HWR.out.2.2.1
          refine hK.out _ _ ⟨(by rw [ha.out]; exact putSel_upk 22 hb_ rfl rfl rfl), BW.out⟩
        refine steps_cons ?_ ?_
        · rintro b a w' ⟨ha, Q_BW⟩ hb_ hon hoff
          refine ⟨_, rfl, fun K hK => ?_⟩
          have e143 : a.tmps[143]? = some (.int .i64 sw.f1) := by rw [ha]; exact putSel_on (e := (13, 143, .int .i64 sw.f1)) 13 rfl rfl (hon 13 (by kernel_rfl)) rfl
          have e152 : a.tmps[152]? = some (.int .i64 (d1_ * (1 + k8))) := by rw [ha]; exact putSel_on (e := (22, 152, .int .i64 (d1_ * (1 + k8)))) 22 rfl rfl (hon 22 (by kernel_rfl)) rfl
          replace ha := Aside0.mk ha
          have BW := Aside0.mk Q_BW
          refine value_ (w1 := w') (v := .int .i64 (v)) (by rfl) rfl ?_ ?_
          · rw [HUV.out.2]
            go_simp
            (try simp only [i64_w])
            exact HWR.out.2.2.2
          refine hK.out _ _ ⟨(by rw [ha.out]; exact putSel_upk 23 hb_ rfl rfl rfl), BW.out⟩
        refine steps_cons ?_ ?_
        · rintro b a w' ⟨ha, Q_BW⟩ hb_ hon hoff
          refine ⟨_, rfl, fun K hK => ?_⟩
          have e141 : a.tmps[141]? = some (.int .i64 u) := by rw [ha]; exact putSel_on (e := (11, 141, .int .i64 u)) 11 rfl rfl (hon 11 (by kernel_rfl)) rfl
          replace ha := Aside0.mk ha
          have BW := Aside0.mk Q_BW
          refine value_ (w1 := w') (v := .int .i64 u) (by rfl) rfl ?_ ?_
          · go_simp
            (try simp only [i64_w])
            try rfl
          refine hK.out _ _ ⟨(by rw [ha.out]; exact putSel_upk 24 hb_ rfl rfl rfl), Q_BW⟩
        refine steps_cons ?_ ?_
        · rintro b a w' ⟨ha, Q_BW⟩ hb_ hon hoff
          refine ⟨_, rfl, fun K hK => ?_⟩
          have e153 : a.tmps[153]? = some (.int .i64 v) := by rw [ha]; exact putSel_on (e := (23, 153, .int .i64 v)) 23 rfl rfl (hon 23 (by kernel_rfl)) rfl
          replace ha := Aside0.mk ha
          have BW := Aside0.mk Q_BW
          refine value_ (w1 := w') (v := .int .i64 v) (by rfl) rfl ?_ ?_
          · go_simp
            (try simp only [i64_w])
            try rfl
          refine hK.out _ _ ⟨(by rw [ha.out]; exact putSel_upk 25 hb_ rfl rfl rfl), Q_BW⟩
        exact steps_nil
      · rintro b a w' hall ⟨ha, Q_BW⟩
        clear BW
        have hb0_ := hall 0 (by kernel_rfl)
        have hb1_ := hall 1 (by kernel_rfl)
        have hb2_ := hall 2 (by kernel_rfl)
        have hb3_ := hall 3 (by kernel_rfl)
        have hb4_ := hall 4 (by kernel_rfl)
        have hb5_ := hall 5 (by kernel_rfl)
        have hb6_ := hall 6 (by kernel_rfl)
        have hb7_ := hall 7 (by kernel_rfl)
        have hb8_ := hall 8 (by kernel_rfl)
        have hb9_ := hall 9 (by kernel_rfl)
        have hb10_ := hall 10 (by kernel_rfl)
        have hb11_ := hall 11 (by kernel_rfl)
        have hb12_ := hall 12 (by kernel_rfl)
        have hb13_ := hall 13 (by kernel_rfl)
        have hb14_ := hall 14 (by kernel_rfl)
        have hb15_ := hall 15 (by kernel_rfl)
        have hb16_ := hall 16 (by kernel_rfl)
        have hb17_ := hall 17 (by kernel_rfl)
        have hb18_ := hall 18 (by kernel_rfl)
        have hb19_ := hall 19 (by kernel_rfl)
        have hb20_ := hall 20 (by kernel_rfl)
        have hb21_ := hall 21 (by kernel_rfl)
        have hb22_ := hall 22 (by kernel_rfl)
        have hb23_ := hall 23 (by kernel_rfl)
        have hb24_ := hall 24 (by kernel_rfl)
        have hb25_ := hall 25 (by kernel_rfl)
        subst ha
        simp only [putSel, hb0_, hb1_, hb2_, hb3_, hb4_, hb5_, hb6_, hb7_, hb8_, hb9_, hb10_, hb11_, hb12_, hb13_, hb14_, hb15_, hb16_, hb17_, hb18_, hb19_, hb20_, hb21_, hb22_, hb23_, hb24_, hb25_, if_true, Act.put, List.setIfInBounds_toArray, List.set_cons_zero, List.set_cons_succ]
        have BW := Aside0.mk Q_BW
        clear Q_BW
        clear hall hb0_ hb1_ hb2_ hb3_ hb4_ hb5_ hb6_ hb7_ hb8_ hb9_ hb10_ hb11_ hb12_ hb13_ hb14_ hb15_ hb16_ hb17_ hb18_ hb19_ hb20_ hb21_ hb22_ hb23_ hb24_ hb25_
        replace HB := Aside0.mk (bt HB.out BW.out)
        replace HBX := Aside0.mk (blk_below HBX.out BW.out)
        replace CQ2 := Aside0.mk (CQ2.out.below BW.out)
        replace HBV := Aside0.mk (blk_below HBV.out BW.out)
        clear BW
        go_upto_region 15 with (fail)
        obtain ⟨wf, rfl⟩ : ∃ W_ : World, W_ = w' := ⟨_, rfl⟩
        have hix : ci < X2.ri.length := by rw [HE2.out.2.1]; exact ci1
        obtain ⟨q, hA1, hqb, hqo, hcl, _, _⟩ := CQ2.out.own.ri ci0 hix
        have HN := Aside0.mk (show w.heap.size ≠ q ∧ gw ≠ q ∧ g2 ≠ q from by obtain ⟨cells, hc⟩ := hcl; refine ⟨blk_ne HBX.out hc (by decide), ?_, blk_ne CQ2.out.box hc (by decide)⟩; have h1 := hqo.1; have h2 := HGL2.out; omega)
        have HXX := Aside0.mk (show wf.heap[g2]? = some (.cells #[.slice X2.A0 X2.st.length X2.c0, .slice (some ⟨q, 0, none⟩) X2.ri.length X2.c1, .slice X2.A2 X2.ca.length X2.c2, .slice X2.A3 X2.su.length X2.c3] 27 (0, 0)) from by rw [← hA1]; exact CQ2.out.box)
        have HSX : Aside0 (rd_T55 X2.ri ci = sw) := ⟨by rw [HE2.out.2.1]; exact HSW.out⟩
        have HOW := Aside0.mk (show Ow { X2 with ri := X2.ri.set ci.toNat (⟨sw.f0, sw.f1, sw.f2, sw.f3, sw.f4, sw.f5⟩ : S55) } (fun k => lo2 ≤ k ∧ k < hi2) w.heap.size wf from by rw [show X2.ri.set ci.toNat (⟨sw.f0, sw.f1, sw.f2, sw.f3, sw.f4, sw.f5⟩ : S55) = X2.ri from by rw [show (⟨sw.f0, sw.f1, sw.f2, sw.f3, sw.f4, sw.f5⟩ : S55) = rd_T55 X2.ri ci from HSX.out.symm]; exact set_rd_T55 ci0 hix]; exact CQ2.out.own)
        have HA1 := Aside0.mk hA1
        have HQB := Aside0.mk (And.intro hqb hqo)
        clear hA1 hqb hqo hcl CQ2
        refine start_ (n := 14) (S := fun w' => True) (ds := []) #[false, false, false, false, false, false, false, false, false, false, false, false, false, false] (by kernel_rfl) rfl rfl trivial (fun hHeld => ?_)
        refine with_tabW divided.tab15 divided.bits15 (fun HT_ HW_ => ?_)
        have HBW := Aside0.mk (below_drew HB.out)
        have SZ := Aside0.mk (show wf.heap.size ≤ wf.drew.heap.size from Nat.le_refl _)
        have BX := Aside0.mk (show wf.drew.heap[w.heap.size]? = some (.cells #[.slice a0.A0 a0.st.length a0.c0, .slice a0.A1 a0.ri.length a0.c1, .slice a0.A2 a0.ca.length a0.c2, .slice a0.A3 a0.su.length a0.c3] 27 (0, 0)) ∧ wf.drew.heap[gw]? = some (.cells #[.int .i64 sw.f0, .int .i64 sw.f1, .int .i64 sw.f2, .int .i64 sw.f3, .int .i64 sw.f4, .int .i64 sw.f5] 55 (0, 0)) ∧ wf.drew.heap[g2]? = some (.cells #[.slice X2.A0 X2.st.length X2.c0, .slice (some ⟨q, 0, none⟩) X2.ri.length X2.c1, .slice X2.A2 X2.ca.length X2.c2, .slice X2.A3 X2.su.length X2.c3] 27 (0, 0)) from ⟨HBX.out, HBV.out, HXX.out⟩)
        have O0 := Aside0.mk (HOW.out.below (below_drew (Below.refl _ _)))
        generalize wf.drew = wd_ at *
        refine inv_at [0, 1, 2, 3, 4, 5, 6, 7, 8, 9, 10, 11, 12, 13] (fun a0_ b a w' => a = putSel a0_ b [(0, 154, .pointer (some ⟨g2, 1, none⟩)), (1, 155, .slice (some ⟨q, 0, none⟩) X2.ri.length X2.c1), (2, 156, .int .i64 ci), (3, 157, .pointer (some ⟨g2, 1, none⟩)), (4, 158, .slice (some ⟨q, 0, none⟩) X2.ri.length X2.c1), (5, 159, .int .i64 ci), (6, 160, .int .i64 u), (7, 161, .int .i64 v), (8, 162, .pointer (some ⟨q, ci.toNat * 6, none⟩)), (9, 163, .pointer (some ⟨q, ci.toNat * 6 + 2, none⟩)), (11, 164, .pointer (some ⟨q, ci.toNat * 6, none⟩)), (12, 165, .pointer (some ⟨q, ci.toNat * 6 + 3, none⟩))] ∧ (Below w.heap.size w w') ∧ (w'.heap[w.heap.size]? = some (.cells #[.slice a0.A0 a0.st.length a0.c0, .slice a0.A1 a0.ri.length a0.c1, .slice a0.A2 a0.ca.length a0.c2, .slice a0.A3 a0.su.length a0.c3] 27 (0, 0)) ∧ w'.heap[gw]? = some (.cells #[.int .i64 sw.f0, .int .i64 sw.f1, .int .i64 sw.f2, .int .i64 sw.f3, .int .i64 sw.f4, .int .i64 sw.f5] 55 (0, 0)) ∧ w'.heap[g2]? = some (.cells #[.slice X2.A0 X2.st.length X2.c0, .slice (some ⟨q, 0, none⟩) X2.ri.length X2.c1, .slice X2.A2 X2.ca.length X2.c2, .slice X2.A3 X2.su.length X2.c3] 27 (0, 0))) ∧ (wf.heap.size ≤ w'.heap.size) ∧ (b 10 = false → Ow { X2 with ri := X2.ri.set ci.toNat (⟨sw.f0, sw.f1, sw.f2, sw.f3, sw.f4, sw.f5⟩ : S55) } (fun k => lo2 ≤ k ∧ k < hi2) w.heap.size w') ∧ (b 10 = true → b 13 = false → Ow { X2 with ri := X2.ri.set ci.toNat (⟨sw.f0, sw.f1, u, sw.f3, sw.f4, sw.f5⟩ : S55) } (fun k => lo2 ≤ k ∧ k < hi2) w.heap.size w') ∧ (b 13 = true → Ow { X2 with ri := X2.ri.set ci.toNat (⟨sw.f0, sw.f1, u, v, sw.f4, sw.f5⟩ : S55) } (fun k => lo2 ≤ k ∧ k < hi2) w.heap.size w')) HT_.out HW_.out (by kernel_rfl) (by kernel_rfl) ?_ ?_ ?_
        · exact ⟨by simp only [putSel, Bool.false_eq_true, if_false], HBW.out, BX.out, SZ.out, fun _ => O0.out, fun h_ => absurd h_ (by decide), fun h_ => absurd h_ (by decide)⟩
        · skip
          clear BX HBW O0 SZ
          refine steps_cons ?_ ?_
          · rintro b a w' ⟨ha, Q_HBW, Q_BX, Q_SZ, Q_O0, Q_O1, Q_O2⟩ hb_ hon hoff
            refine ⟨_, rfl, fun K hK => ?_⟩
            have e14 : a.tmps[14]? = some (.pointer (some ⟨g2, 0, none⟩)) := by rw [ha]; exact (putSel_off rfl).trans rfl
            replace ha := Aside0.mk ha
            have HBW := Aside0.mk Q_HBW
            have BX := Aside0.mk Q_BX
            have SZ := Aside0.mk Q_SZ
            have O0 := Aside0.mk (Q_O0 (hoff 10 (by kernel_rfl)))
            refine value_ (w1 := w') (v := .pointer (some ⟨g2, 1, none⟩)) (by rfl) rfl ?_ ?_
            · go_simp
              (try simp only [i64_w])
              try rfl
            refine hK.out _ _ ⟨(by rw [ha.out]; exact putSel_upk 0 hb_ rfl rfl rfl), Q_HBW, Q_BX, Q_SZ, Q_O0, fun h0_ _ => absurd ((hoff 10 (by kernel_rfl)).symm.trans h0_) (by decide), fun h0_ => absurd ((hoff 13 (by kernel_rfl)).symm.trans h0_) (by decide)⟩
          refine steps_cons ?_ ?_
          · rintro b a w' ⟨ha, Q_HBW, Q_BX, Q_SZ, Q_O0, Q_O1, Q_O2⟩ hb_ hon hoff
            refine ⟨_, rfl, fun K hK => ?_⟩
            have e154 : a.tmps[154]? = some (.pointer (some ⟨g2, 1, none⟩)) := by rw [ha]; exact putSel_on (e := (0, 154, .pointer (some ⟨g2, 1, none⟩))) 0 rfl rfl (hon 0 (by kernel_rfl)) rfl
            replace ha := Aside0.mk ha
            have HBW := Aside0.mk Q_HBW
            have BX := Aside0.mk Q_BX
            have SZ := Aside0.mk Q_SZ
            have O0 := Aside0.mk (Q_O0 (hoff 10 (by kernel_rfl)))
            have k0_ := (blk_cell BX.out.2.2 1).trans rfl
            refine value_ (w1 := w') (v := .slice (some ⟨q, 0, none⟩) X2.ri.length X2.c1) (by rfl) rfl ?_ ?_
            · go_simp
              (try simp only [i64_w])
              try rfl
            refine hK.out _ _ ⟨(by rw [ha.out]; exact putSel_upk 1 hb_ rfl rfl rfl), Q_HBW, Q_BX, Q_SZ, Q_O0, fun h0_ _ => absurd ((hoff 10 (by kernel_rfl)).symm.trans h0_) (by decide), fun h0_ => absurd ((hoff 13 (by kernel_rfl)).symm.trans h0_) (by decide)⟩
          refine steps_cons ?_ ?_
          · rintro b a w' ⟨ha, Q_HBW, Q_BX, Q_SZ, Q_O0, Q_O1, Q_O2⟩ hb_ hon hoff
            refine ⟨_, rfl, fun K hK => ?_⟩
            have e11 : a.tmps[11]? = some (.int .i64 ci) := by rw [ha]; exact (putSel_off rfl).trans rfl
            replace ha := Aside0.mk ha
            have HBW := Aside0.mk Q_HBW
            have BX := Aside0.mk Q_BX
            have SZ := Aside0.mk Q_SZ
            have O0 := Aside0.mk (Q_O0 (hoff 10 (by kernel_rfl)))
            refine value_ (w1 := w') (v := .int .i64 ci) (by rfl) rfl ?_ ?_
            · go_simp
              (try simp only [i64_w])
              try rfl
            refine hK.out _ _ ⟨(by rw [ha.out]; exact putSel_upk 2 hb_ rfl rfl rfl), Q_HBW, Q_BX, Q_SZ, Q_O0, fun h0_ _ => absurd ((hoff 10 (by kernel_rfl)).symm.trans h0_) (by decide), fun h0_ => absurd ((hoff 13 (by kernel_rfl)).symm.trans h0_) (by decide)⟩
          refine steps_cons ?_ ?_
          · rintro b a w' ⟨ha, Q_HBW, Q_BX, Q_SZ, Q_O0, Q_O1, Q_O2⟩ hb_ hon hoff
            refine ⟨_, rfl, fun K hK => ?_⟩
            have e14 : a.tmps[14]? = some (.pointer (some ⟨g2, 0, none⟩)) := by rw [ha]; exact (putSel_off rfl).trans rfl
            replace ha := Aside0.mk ha
            have HBW := Aside0.mk Q_HBW
            have BX := Aside0.mk Q_BX
            have SZ := Aside0.mk Q_SZ
            refine value_ (w1 := w') (v := .pointer (some ⟨g2, 1, none⟩)) (by rfl) rfl ?_ ?_
            · go_simp
              (try simp only [i64_w])
              try rfl
            refine hK.out _ _ ⟨(by rw [ha.out]; exact putSel_upk 3 hb_ rfl rfl rfl), Q_HBW, Q_BX, Q_SZ, Q_O0, Q_O1, fun h0_ => absurd ((hoff 13 (by kernel_rfl)).symm.trans h0_) (by decide)⟩
          refine steps_cons ?_ ?_
          · rintro b a w' ⟨ha, Q_HBW, Q_BX, Q_SZ, Q_O0, Q_O1, Q_O2⟩ hb_ hon hoff
            refine ⟨_, rfl, fun K hK => ?_⟩
            have e157 : a.tmps[157]? = some (.pointer (some ⟨g2, 1, none⟩)) := by rw [ha]; exact putSel_on (e := (3, 157, .pointer (some ⟨g2, 1, none⟩))) 3 rfl rfl (hon 3 (by kernel_rfl)) rfl
            replace ha := Aside0.mk ha
            have HBW := Aside0.mk Q_HBW
            have BX := Aside0.mk Q_BX
            have SZ := Aside0.mk Q_SZ
            have k0_ := (blk_cell BX.out.2.2 1).trans rfl
            refine value_ (w1 := w') (v := .slice (some ⟨q, 0, none⟩) X2.ri.length X2.c1) (by rfl) rfl ?_ ?_
            · go_simp
              (try simp only [i64_w])
              try rfl
            refine hK.out _ _ ⟨(by rw [ha.out]; exact putSel_upk 4 hb_ rfl rfl rfl), Q_HBW, Q_BX, Q_SZ, Q_O0, Q_O1, fun h0_ => absurd ((hoff 13 (by kernel_rfl)).symm.trans h0_) (by decide)⟩
          refine steps_cons ?_ ?_
          · rintro b a w' ⟨ha, Q_HBW, Q_BX, Q_SZ, Q_O0, Q_O1, Q_O2⟩ hb_ hon hoff
            refine ⟨_, rfl, fun K hK => ?_⟩
            have e11 : a.tmps[11]? = some (.int .i64 ci) := by rw [ha]; exact (putSel_off rfl).trans rfl
            replace ha := Aside0.mk ha
            have HBW := Aside0.mk Q_HBW
            have BX := Aside0.mk Q_BX
            have SZ := Aside0.mk Q_SZ
            refine value_ (w1 := w') (v := .int .i64 ci) (by rfl) rfl ?_ ?_
            · go_simp
              (try simp only [i64_w])
              try rfl
            refine hK.out _ _ ⟨(by rw [ha.out]; exact putSel_upk 5 hb_ rfl rfl rfl), Q_HBW, Q_BX, Q_SZ, Q_O0, Q_O1, fun h0_ => absurd ((hoff 13 (by kernel_rfl)).symm.trans h0_) (by decide)⟩
          refine steps_cons ?_ ?_
          · rintro b a w' ⟨ha, Q_HBW, Q_BX, Q_SZ, Q_O0, Q_O1, Q_O2⟩ hb_ hon hoff
            refine ⟨_, rfl, fun K hK => ?_⟩
            have e17 : a.tmps[17]? = some (.int .i64 u) := by rw [ha]; exact (putSel_off rfl).trans rfl
            replace ha := Aside0.mk ha
            have HBW := Aside0.mk Q_HBW
            have BX := Aside0.mk Q_BX
            have SZ := Aside0.mk Q_SZ
            have O0 := Aside0.mk (Q_O0 (hoff 10 (by kernel_rfl)))
            refine value_ (w1 := w') (v := .int .i64 u) (by rfl) rfl ?_ ?_
            · go_simp
              (try simp only [i64_w])
              try rfl
            refine hK.out _ _ ⟨(by rw [ha.out]; exact putSel_upk 6 hb_ rfl rfl rfl), Q_HBW, Q_BX, Q_SZ, Q_O0, fun h0_ _ => absurd ((hoff 10 (by kernel_rfl)).symm.trans h0_) (by decide), fun h0_ => absurd ((hoff 13 (by kernel_rfl)).symm.trans h0_) (by decide)⟩
          refine steps_cons ?_ ?_
          · rintro b a w' ⟨ha, Q_HBW, Q_BX, Q_SZ, Q_O0, Q_O1, Q_O2⟩ hb_ hon hoff
            refine ⟨_, rfl, fun K hK => ?_⟩
            have e18 : a.tmps[18]? = some (.int .i64 v) := by rw [ha]; exact (putSel_off rfl).trans rfl
            replace ha := Aside0.mk ha
            have HBW := Aside0.mk Q_HBW
            have BX := Aside0.mk Q_BX
            have SZ := Aside0.mk Q_SZ
            refine value_ (w1 := w') (v := .int .i64 v) (by rfl) rfl ?_ ?_
            · go_simp
              (try simp only [i64_w])
              try rfl
            refine hK.out _ _ ⟨(by rw [ha.out]; exact putSel_upk 7 hb_ rfl rfl rfl), Q_HBW, Q_BX, Q_SZ, Q_O0, Q_O1, fun h0_ => absurd ((hoff 13 (by kernel_rfl)).symm.trans h0_) (by decide)⟩
          refine steps_cons ?_ ?_
          · rintro b a w' ⟨ha, Q_HBW, Q_BX, Q_SZ, Q_O0, Q_O1, Q_O2⟩ hb_ hon hoff
            refine ⟨_, rfl, fun K hK => ?_⟩
            have e155 : a.tmps[155]? = some (.slice (some ⟨q, 0, none⟩) X2.ri.length X2.c1) := by rw [ha]; exact putSel_on (e := (1, 155, .slice (some ⟨q, 0, none⟩) X2.ri.length X2.c1)) 1 rfl rfl (hon 1 (by kernel_rfl)) rfl
            have e156 : a.tmps[156]? = some (.int .i64 ci) := by rw [ha]; exact putSel_on (e := (2, 156, .int .i64 ci)) 2 rfl rfl (hon 2 (by kernel_rfl)) rfl
            replace ha := Aside0.mk ha
            have HBW := Aside0.mk Q_HBW
            have BX := Aside0.mk Q_BX
            have SZ := Aside0.mk Q_SZ
            have O0 := Aside0.mk (Q_O0 (hoff 10 (by kernel_rfl)))
            have k1_ : (0 : Int) ≤ ci := ci0
            have k2_ := hix
            refine value_ (w1 := w') (v := .pointer (some ⟨q, ci.toNat * 6, none⟩)) (by rfl) rfl ?_ ?_
            · go_simp
              (try simp only [i64_w])
              try rfl
            refine hK.out _ _ ⟨(by rw [ha.out]; exact putSel_upk 8 hb_ rfl rfl rfl), Q_HBW, Q_BX, Q_SZ, Q_O0, fun h0_ _ => absurd ((hoff 10 (by kernel_rfl)).symm.trans h0_) (by decide), fun h0_ => absurd ((hoff 13 (by kernel_rfl)).symm.trans h0_) (by decide)⟩
          refine steps_cons ?_ ?_
          · rintro b a w' ⟨ha, Q_HBW, Q_BX, Q_SZ, Q_O0, Q_O1, Q_O2⟩ hb_ hon hoff
            refine ⟨_, rfl, fun K hK => ?_⟩
            have e162 : a.tmps[162]? = some (.pointer (some ⟨q, ci.toNat * 6, none⟩)) := by rw [ha]; exact putSel_on (e := (8, 162, .pointer (some ⟨q, ci.toNat * 6, none⟩))) 8 rfl rfl (hon 8 (by kernel_rfl)) rfl
            replace ha := Aside0.mk ha
            have HBW := Aside0.mk Q_HBW
            have BX := Aside0.mk Q_BX
            have SZ := Aside0.mk Q_SZ
            have O0 := Aside0.mk (Q_O0 (hoff 10 (by kernel_rfl)))
            refine value_ (w1 := w') (v := .pointer (some ⟨q, ci.toNat * 6 + 2, none⟩)) (by rfl) rfl ?_ ?_
            · go_simp
              (try simp only [i64_w])
              try rfl
            refine hK.out _ _ ⟨(by rw [ha.out]; exact putSel_upk 9 hb_ rfl rfl rfl), Q_HBW, Q_BX, Q_SZ, Q_O0, fun h0_ _ => absurd ((hoff 10 (by kernel_rfl)).symm.trans h0_) (by decide), fun h0_ => absurd ((hoff 13 (by kernel_rfl)).symm.trans h0_) (by decide)⟩
          refine steps_cons ?_ ?_
          · rintro b a w' ⟨ha, Q_HBW, Q_BX, Q_SZ, Q_O0, Q_O1, Q_O2⟩ hb_ hon hoff
            refine ⟨_, rfl, fun K hK => ?_⟩
            have e163 : a.tmps[163]? = some (.pointer (some ⟨q, ci.toNat * 6 + 2, none⟩)) := by rw [ha]; exact putSel_on (e := (9, 163, .pointer (some ⟨q, ci.toNat * 6 + 2, none⟩))) 9 rfl rfl (hon 9 (by kernel_rfl)) rfl
            have e160 : a.tmps[160]? = some (.int .i64 u) := by rw [ha]; exact putSel_on (e := (6, 160, .int .i64 u)) 6 rfl rfl (hon 6 (by kernel_rfl)) rfl
            replace ha := Aside0.mk ha
            have HBW := Aside0.mk Q_HBW
            have BX := Aside0.mk Q_BX
            have SZ := Aside0.mk Q_SZ
            have O0 := Aside0.mk (Q_O0 hb_)
            obtain ⟨⟨cells_, hcl_⟩, hcc_⟩ := O0.out.at55 HA1.out ci0 hix
            have c0 := hcc_ 2 _ rfl
            have f0 := blk_frozen hcl_ (ci.toNat * 6 + 2)
            clear hcl_ hcc_
            refine skip_ (w1 := w'.setCell ⟨q, ci.toNat * 6 + 2, none⟩ (.int .i64 u)) (by rfl) rfl (by go_simp) ?_
            refine hK.out _ _ ⟨(by rw [ha.out]; exact putSel_none (v := undef) rfl), below_set HBW.out HQB.out.1, ⟨blk_far (p := ⟨q, ci.toNat * 6 + 2, none⟩) BX.out.1 HN.out.1 _, blk_far (p := ⟨q, ci.toNat * 6 + 2, none⟩) BX.out.2.1 HN.out.2.1 _, blk_far (p := ⟨q, ci.toNat * 6 + 2, none⟩) BX.out.2.2 HN.out.2.2 _⟩, Nat.le_trans SZ.out (Nat.le_of_eq (setCell_size _ _ _).symm), fun h0_ => absurd ((up_self b 10).symm.trans h0_) (by decide), fun _ _ => O0.out.put55 HA1.out ci0 hix 2 _ (⟨sw.f0, sw.f1, u, sw.f3, sw.f4, sw.f5⟩ : S55) (by decide) rfl, fun h0_ => absurd ((hoff 13 (by kernel_rfl)).symm.trans h0_) (by decide)⟩
          refine steps_cons ?_ ?_
          · rintro b a w' ⟨ha, Q_HBW, Q_BX, Q_SZ, Q_O0, Q_O1, Q_O2⟩ hb_ hon hoff
            refine ⟨_, rfl, fun K hK => ?_⟩
            have e158 : a.tmps[158]? = some (.slice (some ⟨q, 0, none⟩) X2.ri.length X2.c1) := by rw [ha]; exact putSel_on (e := (4, 158, .slice (some ⟨q, 0, none⟩) X2.ri.length X2.c1)) 4 rfl rfl (hon 4 (by kernel_rfl)) rfl
            have e159 : a.tmps[159]? = some (.int .i64 ci) := by rw [ha]; exact putSel_on (e := (5, 159, .int .i64 ci)) 5 rfl rfl (hon 5 (by kernel_rfl)) rfl
            replace ha := Aside0.mk ha
            have HBW := Aside0.mk Q_HBW
            have BX := Aside0.mk Q_BX
            have SZ := Aside0.mk Q_SZ
            have O1 := Aside0.mk (Q_O1 (hon 10 (by kernel_rfl)) (hoff 13 (by kernel_rfl)))
            have k1_ : (0 : Int) ≤ ci := ci0
            have k2_ := hix
            refine value_ (w1 := w') (v := .pointer (some ⟨q, ci.toNat * 6, none⟩)) (by rfl) rfl ?_ ?_
            · go_simp
              (try simp only [i64_w])
              try rfl
            refine hK.out _ _ ⟨(by rw [ha.out]; exact putSel_upk 10 hb_ rfl rfl rfl), Q_HBW, Q_BX, Q_SZ, fun h0_ => absurd ((hon 10 (by kernel_rfl)).symm.trans h0_) (by decide), Q_O1, fun h0_ => absurd ((hoff 13 (by kernel_rfl)).symm.trans h0_) (by decide)⟩
          refine steps_cons ?_ ?_
          · rintro b a w' ⟨ha, Q_HBW, Q_BX, Q_SZ, Q_O0, Q_O1, Q_O2⟩ hb_ hon hoff
            refine ⟨_, rfl, fun K hK => ?_⟩
            have e164 : a.tmps[164]? = some (.pointer (some ⟨q, ci.toNat * 6, none⟩)) := by rw [ha]; exact putSel_on (e := (11, 164, .pointer (some ⟨q, ci.toNat * 6, none⟩))) 10 rfl rfl (hon 11 (by kernel_rfl)) rfl
            replace ha := Aside0.mk ha
            have HBW := Aside0.mk Q_HBW
            have BX := Aside0.mk Q_BX
            have SZ := Aside0.mk Q_SZ
            have O1 := Aside0.mk (Q_O1 (hon 10 (by kernel_rfl)) (hoff 13 (by kernel_rfl)))
            refine value_ (w1 := w') (v := .pointer (some ⟨q, ci.toNat * 6 + 3, none⟩)) (by rfl) rfl ?_ ?_
            · go_simp
              (try simp only [i64_w])
              try rfl
            refine hK.out _ _ ⟨(by rw [ha.out]; exact putSel_upk 11 hb_ rfl rfl rfl), Q_HBW, Q_BX, Q_SZ, fun h0_ => absurd ((hon 10 (by kernel_rfl)).symm.trans h0_) (by decide), Q_O1, fun h0_ => absurd ((hoff 13 (by kernel_rfl)).symm.trans h0_) (by decide)⟩
          refine steps_cons ?_ ?_
          · rintro b a w' ⟨ha, Q_HBW, Q_BX, Q_SZ, Q_O0, Q_O1, Q_O2⟩ hb_ hon hoff
            refine ⟨_, rfl, fun K hK => ?_⟩
            have e165 : a.tmps[165]? = some (.pointer (some ⟨q, ci.toNat * 6 + 3, none⟩)) := by rw [ha]; exact putSel_on (e := (12, 165, .pointer (some ⟨q, ci.toNat * 6 + 3, none⟩))) 11 rfl rfl (hon 12 (by kernel_rfl)) rfl
            have e161 : a.tmps[161]? = some (.int .i64 v) := by rw [ha]; exact putSel_on (e := (7, 161, .int .i64 v)) 7 rfl rfl (hon 7 (by kernel_rfl)) rfl
            replace ha := Aside0.mk ha
            have HBW := Aside0.mk Q_HBW
            have BX := Aside0.mk Q_BX
            have SZ := Aside0.mk Q_SZ
            have O1 := Aside0.mk (Q_O1 (hon 10 (by kernel_rfl)) hb_)
            obtain ⟨⟨cells_, hcl_⟩, hcc_⟩ := O1.out.at55 HA1.out ci0 hix
            have c0 := hcc_ 3 _ rfl
            have f0 := blk_frozen hcl_ (ci.toNat * 6 + 3)
            clear hcl_ hcc_
            refine skip_ (w1 := w'.setCell ⟨q, ci.toNat * 6 + 3, none⟩ (.int .i64 v)) (by rfl) rfl (by go_simp) ?_
            refine hK.out _ _ ⟨(by rw [ha.out]; exact putSel_none (v := undef) rfl), below_set HBW.out HQB.out.1, ⟨blk_far (p := ⟨q, ci.toNat * 6 + 3, none⟩) BX.out.1 HN.out.1 _, blk_far (p := ⟨q, ci.toNat * 6 + 3, none⟩) BX.out.2.1 HN.out.2.1 _, blk_far (p := ⟨q, ci.toNat * 6 + 3, none⟩) BX.out.2.2 HN.out.2.2 _⟩, Nat.le_trans SZ.out (Nat.le_of_eq (setCell_size _ _ _).symm), fun h0_ => absurd ((hon 10 (by kernel_rfl)).symm.trans h0_) (by decide), fun _ h1_ => absurd ((up_self b 13).symm.trans h1_) (by decide), fun _ => O1.out.put55 HA1.out ci0 hix 3 _ (⟨sw.f0, sw.f1, u, v, sw.f4, sw.f5⟩ : S55) (by decide) rfl⟩
          exact steps_nil
        · rintro b a w' hall ⟨ha, Q_HBW, Q_BX, Q_SZ, Q_O0, Q_O1, Q_O2⟩
          clear BX HBW O0 SZ
          have hb0_ := hall 0 (by kernel_rfl)
          have hb1_ := hall 1 (by kernel_rfl)
          have hb2_ := hall 2 (by kernel_rfl)
          have hb3_ := hall 3 (by kernel_rfl)
          have hb4_ := hall 4 (by kernel_rfl)
          have hb5_ := hall 5 (by kernel_rfl)
          have hb6_ := hall 6 (by kernel_rfl)
          have hb7_ := hall 7 (by kernel_rfl)
          have hb8_ := hall 8 (by kernel_rfl)
          have hb9_ := hall 9 (by kernel_rfl)
          have hb10_ := hall 10 (by kernel_rfl)
          have hb11_ := hall 11 (by kernel_rfl)
          have hb12_ := hall 12 (by kernel_rfl)
          have hb13_ := hall 13 (by kernel_rfl)
          subst ha
          simp only [putSel, hb0_, hb1_, hb2_, hb3_, hb4_, hb5_, hb6_, hb7_, hb8_, hb9_, hb10_, hb11_, hb12_, hb13_, if_true, Act.put, List.setIfInBounds_toArray, List.set_cons_zero, List.set_cons_succ]
          have HBW := Aside0.mk Q_HBW
          clear Q_HBW
          have BX := Aside0.mk Q_BX
          clear Q_BX
          have SZ := Aside0.mk Q_SZ
          clear Q_SZ
          clear Q_O0
          clear Q_O1
          have O2 := Aside0.mk (Q_O2 hb13_)
          clear Q_O2
          clear hall hb0_ hb1_ hb2_ hb3_ hb4_ hb5_ hb6_ hb7_ hb8_ hb9_ hb10_ hb11_ hb12_ hb13_
          obtain ⟨wg, rfl⟩ : ∃ W_ : World, W_ = w' := ⟨_, rfl⟩
          have HB := HBW
          have HBX := Aside0.mk BX.out.1
          have HBV := Aside0.mk BX.out.2.1
          have HSZ := SZ
          obtain ⟨Y2, hY2⟩ : ∃ Y2 : Rv, Y2 = { X2 with ri := X2.ri.set ci.toNat (⟨sw.f0, sw.f1, u, v, sw.f4, sw.f5⟩ : S55) } := ⟨_, rfl⟩
          rw [← hY2] at O2
          have CQ2 := Aside0.mk (show Cq Y2 g2 (fun k => lo2 ≤ k ∧ k < hi2) w.heap.size wg from ⟨by rw [hY2]; simp only [List.length_set, HA1.out]; exact BX.out.2.2, O2.out⟩)
          have HY2 := Aside0.mk (show Y2.st = a0.st ∧ Y2.ri = a0.ri.set ci.toNat (⟨sw.f0, sw.f1, u, v, sw.f4, sw.f5⟩ : S55) ∧ Y2.ca = a0.ca ∧ Y2.su = a0.su from by rw [hY2]; exact ⟨HE2.out.1, by rw [← HE2.out.2.1], HE2.out.2.2.1, HE2.out.2.2.2⟩)
          have hyl : Y2.ri.length ≤ 5 := by rw [HY2.out.2.1, List.length_set]; exact hr5
          clear hY2 O2 BX HBW SZ HN HA1 HQB hix HXX HOW HSX
          have d0 := (blk_cell HBX.out 0).trans rfl
          have d1 := (blk_cell HBX.out 1).trans rfl
          have d2 := (blk_cell HBX.out 2).trans rfl
          have d3 := (blk_cell HBX.out 3).trans rfl
          have v0_ := (blk_cell HBV.out 0).trans rfl
          have v1_ := (blk_cell HBV.out 1).trans rfl
          have v2_ := (blk_cell HBV.out 2).trans rfl
          have v3_ := (blk_cell HBV.out 3).trans rfl
          have v4_ := (blk_cell HBV.out 4).trans rfl
          have v5_ := (blk_cell HBV.out 5).trans rfl
          have y0_ := (blk_cell CQ2.out.box 0).trans rfl
          have y1_ := (blk_cell CQ2.out.box 1).trans rfl
          have y2_ := (blk_cell CQ2.out.box 2).trans rfl
          have y3_ := (blk_cell CQ2.out.box 3).trans rfl
          go_upto_region 17 with (first | ((with_reducible refine gate_builtin (b := .append) (xs := #[.tmp 167, .tmp 177]) rfl ?_); at_builtin; refine Kd.R_append k55 (w0 := w) w.heap.size rfl (.tmp 167) (.tmp 177) 23 55 (.agg #[(.int .i64 0), (.int .i64 0), (.int .i64 0), (.int .i64 0), (.int .i64 0), (.int .i64 0)]) 48 rfl Try.underlying23 info55 rfl (by decide) (by omega) _ Y2.ri (⟨u, v, sw.f2, sw.f3, 0, sw.f5⟩ : S55) [.int .i64 u, .int .i64 v, .int .i64 sw.f2, .int .i64 sw.f3, .int .i64 0, .int .i64 sw.f5] (fun k => (lo2 ≤ k ∧ k < hi2) ∨ wg.heap.size ≤ k) (fun _ => False) rfl rfl ?aP (fun _ hk => hk.elim) ?aF ?aO ?aB ?aS ?aL ?_; (case aP => exact k55_mkM _ _ _ _); (case aB => exact HB.out); (case aF => exact (fun k hk => Or.inr hk)); (case aO => exact Kd.R_mono CQ2.out.own.r1 (fun _ h => Or.inl h)); (case aS => exact HB.out.size); (case aL => omega); intro v1 wb hR1 hB1 hG1 hA1; obtain ⟨bA_, yA_, rfl⟩ := Kd.R_slice hR1; have hro := CQ2.out.own.r1.1; have HOW2 := Aside0.mk (Ow.ridge (ok' := (fun k => (lo2 ≤ k ∧ k < hi2) ∨ wg.heap.size ≤ k)) CQ2.out.own hR1 hG1 (fun _ h => Or.inl h)); have HBX2 := Aside0.mk (blk_grown CQ2.out.box hG1 (Kd.R_ne CQ2.out.own.r1 CQ2.out.box (by decide))); replace HB := Aside0.mk hB1; replace HBX := Aside0.mk (blk_grown HBX.out hG1 (Kd.R_ne CQ2.out.own.r1 HBX.out (by decide))); clear CQ2 HBV hro hR1 hB1 hG1 hA1 d0 d1 d2 d3 v0_ v1_ v2_ v3_ v4_ v5_ y0_ y1_ y2_ y3_; have c1_ := (blk_cell HBX2.out 1).trans rfl; have fz_ := blk_frozen HBX2.out 1) | ((with_reducible refine gate_st (p := 179) rfl ?_); refine put_ev (p := 179) (w1 := wb.setCell ⟨g2, 1, none⟩ (.slice bA_ (Y2.ri ++ [(⟨u, v, sw.f2, sw.f3, 0, sw.f5⟩ : S55)]).length yA_)) (fun x_ => Below w.heap.size w x_ ∧ x_.heap[w.heap.size]? = some (.cells #[.slice a0.A0 a0.st.length a0.c0, .slice a0.A1 a0.ri.length a0.c1, .slice a0.A2 a0.ca.length a0.c2, .slice a0.A3 a0.su.length a0.c3] 27 (0, 0)) ∧ Cq { Y2 with ri := Y2.ri ++ [(⟨u, v, sw.f2, sw.f3, 0, sw.f5⟩ : S55)], A1 := bA_, c1 := yA_ } g2 (fun k => (lo2 ≤ k ∧ k < hi2) ∨ wg.heap.size ≤ k) w.heap.size x_) rfl rfl rfl ?hr ?hF ?_; (case hr => first | (go_simp; done) | (go_simp; rfl)); (case hF => exact ⟨below_set HB.out (Nat.le_of_lt HG2.out.1), blk_far (p := ⟨g2, 1, none⟩) HBX.out (show w.heap.size ≠ g2 from Nat.ne_of_lt HG2.out.1) _, ⟨blk_set HBX2.out 1 _, HOW2.out.set27 HBX2.out 1 _⟩⟩); clear c1_ fz_ HB HBX HOW2 HBX2; rintro wh ⟨k0_, k1_, k2_⟩; have HB := Aside0.mk k0_; have HBX := Aside0.mk k1_; have CZ := Aside0.mk k2_; clear k0_ k1_ k2_))
          obtain ⟨Z, hZ⟩ : ∃ Z : Rv, Z = { Y2 with ri := Y2.ri ++ [(⟨u, v, sw.f2, sw.f3, 0, sw.f5⟩ : S55)], A1 := bA_, c1 := yA_ } := ⟨_, rfl⟩
          rw [← hZ] at CZ
          have HIZ := Aside0.mk CZ.out.own.inn
          have HBZ := Aside0.mk CZ.out.box
          obtain ⟨hfz, ps, xs, qs, ys, hw0, hw1, hwi, hri⟩ := part_law (R := a0) (Y := Z) (a := pa) (b := pb) (i := ci) (n := (2 + m5)) (k := (1 + k8)) (d0 := d0_) (d1 := d1_) (w := sw) HC.out HF.out HP.out.1 HP.out.2.1 HP.out.2.2 hc1 hu1 ci0 ci1 hr5 (by omega) (by omega) HSW.out HD0.out.symm HD1.out.symm (by rw [hZ]; exact HY2.out.1) (by rw [hZ]; show Y2.ri ++ [(⟨u, v, sw.f2, sw.f3, 0, sw.f5⟩ : S55)] = _; rw [HY2.out.2.1, HUV.out.1, HUV.out.2]) (by rw [hZ]; exact HY2.out.2.2.1) (by rw [hZ]; exact HY2.out.2.2.2)
          have HFZ := Aside0.mk hfz
          have HW0 := Aside0.mk hw0
          have HW1 := Aside0.mk hw1
          have HWI := Aside0.mk hwi
          obtain ⟨r, e, hr⟩ : ∃ r e, riseE a0.lv pa pb = (r, e) := ⟨_, _, rfl⟩
          have HR0 := Aside0.mk hr
          have HR1 := Aside0.mk (hri.trans hr)
          clear hfz hw0 hw1 hwi hri hr hZ CZ hyl HUV HD0 HD1 HWR HDV HDW hb0 hb1 hb2 hb3 hk8 hm5
          have d0 := (blk_cell HBX.out 0).trans rfl
          have d1 := (blk_cell HBX.out 1).trans rfl
          have d2 := (blk_cell HBX.out 2).trans rfl
          have d3 := (blk_cell HBX.out 3).trans rfl
          have z0_ := (blk_cell HBZ.out 0).trans rfl
          have z1_ := (blk_cell HBZ.out 1).trans rfl
          have z2_ := (blk_cell HBZ.out 2).trans rfl
          have z3_ := (blk_cell HBZ.out 3).trans rfl
          go_wp2_with fail
          refine (lland_c a0 _ (HI.out.below HB.out) HF.out).mono ?_
          rintro e w8_ ⟨L, rfl, hO, hL, hb_⟩
          replace HB := Aside0.mk (bt HB.out hb_)
          replace HBX := Aside0.mk (blk_below HBX.out hb_)
          replace HIZ := Aside0.mk (HIZ.out.below hb_)
          replace HBZ := Aside0.mk (blk_below HBZ.out hb_)
          clear z0_ z1_ z2_ z3_
          clear d0 d1 d2 d3
          clear hb_
          have d0 := (blk_cell HBX.out 0).trans rfl
          have d1 := (blk_cell HBX.out 1).trans rfl
          have d2 := (blk_cell HBX.out 2).trans rfl
          have d3 := (blk_cell HBX.out 3).trans rfl
          have z0_ := (blk_cell HBZ.out 0).trans rfl
          have z1_ := (blk_cell HBZ.out 1).trans rfl
          have z2_ := (blk_cell HBZ.out 2).trans rfl
          have z3_ := (blk_cell HBZ.out 3).trans rfl
          have HO := Aside0.mk hO
          have HL := Aside0.mk hL
          clear hO hL
          go_wp2_with fail
          refine (of_walls HO.out HL.out pa pb 0 0).mono ?_
          rintro e w9_ ⟨Ax0, cx0, Ay0, cy0, rfl, hX_, hY_, hb_⟩
          replace HB := Aside0.mk (bt HB.out hb_)
          replace HBX := Aside0.mk (blk_below HBX.out hb_)
          replace HIZ := Aside0.mk (HIZ.out.below hb_)
          replace HBZ := Aside0.mk (blk_below HBZ.out hb_)
          clear z0_ z1_ z2_ z3_
          clear d0 d1 d2 d3
          clear hb_
          have d0 := (blk_cell HBX.out 0).trans rfl
          have d1 := (blk_cell HBX.out 1).trans rfl
          have d2 := (blk_cell HBX.out 2).trans rfl
          have d3 := (blk_cell HBX.out 3).trans rfl
          have z0_ := (blk_cell HBZ.out 0).trans rfl
          have z1_ := (blk_cell HBZ.out 1).trans rfl
          have z2_ := (blk_cell HBZ.out 2).trans rfl
          have z3_ := (blk_cell HBZ.out 3).trans rfl
          rw [HW0.out] at hX_
          rw [HW0.out]
          have HX0 := Aside0.mk hX_
          clear hX_ hY_ HO HL
          have lx0 := HX0.out.2.1
          go_wp2_with fail
          refine (lland_c Z _ HIZ.out HFZ.out).mono ?_
          rintro e w10_ ⟨L, rfl, hO, hL, hb_⟩
          replace HB := Aside0.mk (bt HB.out hb_)
          replace HBX := Aside0.mk (blk_below HBX.out hb_)
          replace HX0 := Aside0.mk (Kd.C_below HX0.out hb_)
          replace HIZ := Aside0.mk (HIZ.out.below hb_)
          replace HBZ := Aside0.mk (blk_below HBZ.out hb_)
          clear z0_ z1_ z2_ z3_
          clear d0 d1 d2 d3
          clear hb_
          have d0 := (blk_cell HBX.out 0).trans rfl
          have d1 := (blk_cell HBX.out 1).trans rfl
          have d2 := (blk_cell HBX.out 2).trans rfl
          have d3 := (blk_cell HBX.out 3).trans rfl
          have z0_ := (blk_cell HBZ.out 0).trans rfl
          have z1_ := (blk_cell HBZ.out 1).trans rfl
          have z2_ := (blk_cell HBZ.out 2).trans rfl
          have z3_ := (blk_cell HBZ.out 3).trans rfl
          have HO := Aside0.mk hO
          have HL := Aside0.mk hL
          clear hO hL
          go_wp2_with fail
          refine (of_walls HO.out HL.out pa pb 0 0).mono ?_
          rintro e w11_ ⟨Ax1, cx1, Ay1, cy1, rfl, hX_, hY_, hb_⟩
          replace HB := Aside0.mk (bt HB.out hb_)
          replace HBX := Aside0.mk (blk_below HBX.out hb_)
          replace HX0 := Aside0.mk (Kd.C_below HX0.out hb_)
          replace HIZ := Aside0.mk (HIZ.out.below hb_)
          replace HBZ := Aside0.mk (blk_below HBZ.out hb_)
          clear z0_ z1_ z2_ z3_
          clear d0 d1 d2 d3
          clear hb_
          have d0 := (blk_cell HBX.out 0).trans rfl
          have d1 := (blk_cell HBX.out 1).trans rfl
          have d2 := (blk_cell HBX.out 2).trans rfl
          have d3 := (blk_cell HBX.out 3).trans rfl
          have z0_ := (blk_cell HBZ.out 0).trans rfl
          have z1_ := (blk_cell HBZ.out 1).trans rfl
          have z2_ := (blk_cell HBZ.out 2).trans rfl
          have z3_ := (blk_cell HBZ.out 3).trans rfl
          rw [HW1.out] at hX_
          rw [HW1.out]
          have HX1 := Aside0.mk hX_
          clear hX_ hY_ HO HL
          have lx1 := HX1.out.2.1
          go_wp2_with fail
          refine (lland_c a0 _ (HI.out.below HB.out) HF.out).mono ?_
          rintro e w12_ ⟨L, rfl, hO, hL, hb_⟩
          replace HB := Aside0.mk (bt HB.out hb_)
          replace HBX := Aside0.mk (blk_below HBX.out hb_)
          replace HX0 := Aside0.mk (Kd.C_below HX0.out hb_)
          replace HX1 := Aside0.mk (Kd.C_below HX1.out hb_)
          replace HIZ := Aside0.mk (HIZ.out.below hb_)
          replace HBZ := Aside0.mk (blk_below HBZ.out hb_)
          clear z0_ z1_ z2_ z3_
          clear d0 d1 d2 d3
          clear hb_
          have d0 := (blk_cell HBX.out 0).trans rfl
          have d1 := (blk_cell HBX.out 1).trans rfl
          have d2 := (blk_cell HBX.out 2).trans rfl
          have d3 := (blk_cell HBX.out 3).trans rfl
          have z0_ := (blk_cell HBZ.out 0).trans rfl
          have z1_ := (blk_cell HBZ.out 1).trans rfl
          have z2_ := (blk_cell HBZ.out 2).trans rfl
          have z3_ := (blk_cell HBZ.out 3).trans rfl
          have HO := Aside0.mk hO
          have HL := Aside0.mk hL
          clear hO hL
          go_wp2_with fail
          refine (of_rise HO.out HL.out pa pb).mono ?_
          rintro e w13_ ⟨rfl, hb_⟩
          replace HB := Aside0.mk (bt HB.out hb_)
          replace HBX := Aside0.mk (blk_below HBX.out hb_)
          replace HX0 := Aside0.mk (Kd.C_below HX0.out hb_)
          replace HX1 := Aside0.mk (Kd.C_below HX1.out hb_)
          replace HIZ := Aside0.mk (HIZ.out.below hb_)
          replace HBZ := Aside0.mk (blk_below HBZ.out hb_)
          clear z0_ z1_ z2_ z3_
          clear d0 d1 d2 d3
          clear hb_
          have d0 := (blk_cell HBX.out 0).trans rfl
          have d1 := (blk_cell HBX.out 1).trans rfl
          have d2 := (blk_cell HBX.out 2).trans rfl
          have d3 := (blk_cell HBX.out 3).trans rfl
          have z0_ := (blk_cell HBZ.out 0).trans rfl
          have z1_ := (blk_cell HBZ.out 1).trans rfl
          have z2_ := (blk_cell HBZ.out 2).trans rfl
          have z3_ := (blk_cell HBZ.out 3).trans rfl
          rw [HR0.out]
          clear HO HL
          go_wp2_with fail
          refine (lland_c Z _ HIZ.out HFZ.out).mono ?_
          rintro e w14_ ⟨L, rfl, hO, hL, hb_⟩
          replace HB := Aside0.mk (bt HB.out hb_)
          replace HBX := Aside0.mk (blk_below HBX.out hb_)
          replace HX0 := Aside0.mk (Kd.C_below HX0.out hb_)
          replace HX1 := Aside0.mk (Kd.C_below HX1.out hb_)
          replace HIZ := Aside0.mk (HIZ.out.below hb_)
          replace HBZ := Aside0.mk (blk_below HBZ.out hb_)
          clear z0_ z1_ z2_ z3_
          clear d0 d1 d2 d3
          clear hb_
          have d0 := (blk_cell HBX.out 0).trans rfl
          have d1 := (blk_cell HBX.out 1).trans rfl
          have d2 := (blk_cell HBX.out 2).trans rfl
          have d3 := (blk_cell HBX.out 3).trans rfl
          have z0_ := (blk_cell HBZ.out 0).trans rfl
          have z1_ := (blk_cell HBZ.out 1).trans rfl
          have z2_ := (blk_cell HBZ.out 2).trans rfl
          have z3_ := (blk_cell HBZ.out 3).trans rfl
          have HO := Aside0.mk hO
          have HL := Aside0.mk hL
          clear hO hL
          go_wp2_with fail
          refine (of_rise HO.out HL.out pa pb).mono ?_
          rintro e w15_ ⟨rfl, hb_⟩
          replace HB := Aside0.mk (bt HB.out hb_)
          replace HBX := Aside0.mk (blk_below HBX.out hb_)
          replace HX0 := Aside0.mk (Kd.C_below HX0.out hb_)
          replace HX1 := Aside0.mk (Kd.C_below HX1.out hb_)
          replace HIZ := Aside0.mk (HIZ.out.below hb_)
          replace HBZ := Aside0.mk (blk_below HBZ.out hb_)
          clear z0_ z1_ z2_ z3_
          clear d0 d1 d2 d3
          clear hb_
          have d0 := (blk_cell HBX.out 0).trans rfl
          have d1 := (blk_cell HBX.out 1).trans rfl
          have d2 := (blk_cell HBX.out 2).trans rfl
          have d3 := (blk_cell HBX.out 3).trans rfl
          have z0_ := (blk_cell HBZ.out 0).trans rfl
          have z1_ := (blk_cell HBZ.out 1).trans rfl
          have z2_ := (blk_cell HBZ.out 2).trans rfl
          have z3_ := (blk_cell HBZ.out 3).trans rfl
          rw [HR1.out]
          clear HO HL
          have te : (e == e) = true := by simp
          have tr : (r == r) = true := by simp
          cases hq1 : withinB [ci] qs
          · skip
            have HQ1 := Aside0.mk hq1
            obtain ⟨b2, hb2⟩ : ∃ b2, withinB [(a0.ri.length : Int)] qs = b2 := ⟨_, rfl⟩
            have HB2 := Aside0.mk hb2
            have HW2 : Aside0 (withinB [ci] ps = b2) := ⟨by rw [HWI.out, hq1, hb2]; rfl⟩
            clear hq1 hb2
            have tb : (b2 == b2) = true := by simp
            go_wp2_with fail
            have hl : Kd.C (Kd.int .i64) (w15_.alloc (.cells #[.int .i64 ci] 3)) (some ⟨w15_.heap.size, 0, none⟩) 1 [ci] := C_flat (α := Int) (d := Kd.int .i64) (blk_new w15_ _) (fun n => [.int .i64 n]) (by show 1 ≤ _; omega) rfl (fun _ => rfl)
            have hbn := b1 w15_ (.cells #[.int .i64 ci] 3)
            refine (within_l (some ⟨w15_.heap.size, 0, none⟩) Ax0 1 cx0 [ci] ps _ hl (Kd.C_below HX0.out hbn)).mono ?_
            rintro e w16_ ⟨rfl, hb_⟩
            replace HB := Aside0.mk (bt HB.out (bt hbn hb_))
            replace HBX := Aside0.mk (blk_below HBX.out (bt hbn hb_))
            replace HX0 := Aside0.mk (Kd.C_below HX0.out (bt hbn hb_))
            replace HX1 := Aside0.mk (Kd.C_below HX1.out (bt hbn hb_))
            replace HIZ := Aside0.mk (HIZ.out.below (bt hbn hb_))
            replace HBZ := Aside0.mk (blk_below HBZ.out (bt hbn hb_))
            clear z0_ z1_ z2_ z3_
            clear d0 d1 d2 d3
            clear hl hbn hb_
            rw [HW2.out]
            have d0 := (blk_cell HBX.out 0).trans rfl
            have d1 := (blk_cell HBX.out 1).trans rfl
            have d2 := (blk_cell HBX.out 2).trans rfl
            have d3 := (blk_cell HBX.out 3).trans rfl
            have z0_ := (blk_cell HBZ.out 0).trans rfl
            have z1_ := (blk_cell HBZ.out 1).trans rfl
            have z2_ := (blk_cell HBZ.out 2).trans rfl
            have z3_ := (blk_cell HBZ.out 3).trans rfl
            go_wp2_with fail
            have hl : Kd.C (Kd.int .i64) (w16_.alloc (.cells #[.int .i64 ci] 3)) (some ⟨w16_.heap.size, 0, none⟩) 1 [ci] := C_flat (α := Int) (d := Kd.int .i64) (blk_new w16_ _) (fun n => [.int .i64 n]) (by show 1 ≤ _; omega) rfl (fun _ => rfl)
            have hbn := b1 w16_ (.cells #[.int .i64 ci] 3)
            refine (within_l (some ⟨w16_.heap.size, 0, none⟩) Ax1 1 cx1 [ci] qs _ hl (Kd.C_below HX1.out hbn)).mono ?_
            rintro e w17_ ⟨rfl, hb_⟩
            replace HB := Aside0.mk (bt HB.out (bt hbn hb_))
            replace HBX := Aside0.mk (blk_below HBX.out (bt hbn hb_))
            replace HX0 := Aside0.mk (Kd.C_below HX0.out (bt hbn hb_))
            replace HX1 := Aside0.mk (Kd.C_below HX1.out (bt hbn hb_))
            replace HIZ := Aside0.mk (HIZ.out.below (bt hbn hb_))
            replace HBZ := Aside0.mk (blk_below HBZ.out (bt hbn hb_))
            clear z0_ z1_ z2_ z3_
            clear d0 d1 d2 d3
            clear hl hbn hb_
            rw [HQ1.out]
            have d0 := (blk_cell HBX.out 0).trans rfl
            have d1 := (blk_cell HBX.out 1).trans rfl
            have d2 := (blk_cell HBX.out 2).trans rfl
            have d3 := (blk_cell HBX.out 3).trans rfl
            have z0_ := (blk_cell HBZ.out 0).trans rfl
            have z1_ := (blk_cell HBZ.out 1).trans rfl
            have z2_ := (blk_cell HBZ.out 2).trans rfl
            have z3_ := (blk_cell HBZ.out 3).trans rfl
            go_wp2_with fail
            have hl : Kd.C (Kd.int .i64) (w17_.alloc (.cells #[.int .i64 (a0.ri.length : Int)] 3)) (some ⟨w17_.heap.size, 0, none⟩) 1 [(a0.ri.length : Int)] := C_flat (α := Int) (d := Kd.int .i64) (blk_new w17_ _) (fun n => [.int .i64 n]) (by show 1 ≤ _; omega) rfl (fun _ => rfl)
            have hbn := b1 w17_ (.cells #[.int .i64 (a0.ri.length : Int)] 3)
            refine (within_l (some ⟨w17_.heap.size, 0, none⟩) Ax1 1 cx1 [(a0.ri.length : Int)] qs _ hl (Kd.C_below HX1.out hbn)).mono ?_
            rintro e w18_ ⟨rfl, hb_⟩
            replace HB := Aside0.mk (bt HB.out (bt hbn hb_))
            replace HBX := Aside0.mk (blk_below HBX.out (bt hbn hb_))
            replace HX0 := Aside0.mk (Kd.C_below HX0.out (bt hbn hb_))
            replace HX1 := Aside0.mk (Kd.C_below HX1.out (bt hbn hb_))
            replace HIZ := Aside0.mk (HIZ.out.below (bt hbn hb_))
            replace HBZ := Aside0.mk (blk_below HBZ.out (bt hbn hb_))
            clear z0_ z1_ z2_ z3_
            clear d0 d1 d2 d3
            clear hl hbn hb_
            rw [HB2.out]
            have d0 := (blk_cell HBX.out 0).trans rfl
            have d1 := (blk_cell HBX.out 1).trans rfl
            have d2 := (blk_cell HBX.out 2).trans rfl
            have d3 := (blk_cell HBX.out 3).trans rfl
            have z0_ := (blk_cell HBZ.out 0).trans rfl
            have z1_ := (blk_cell HBZ.out 1).trans rfl
            have z2_ := (blk_cell HBZ.out 2).trans rfl
            have z3_ := (blk_cell HBZ.out 3).trans rfl
            go_wp2_with fail
            refine (awake_c _).mono ?_
            rintro e w19_ ⟨rfl, hb_⟩
            replace HB := Aside0.mk (bt HB.out hb_)
            replace HBX := Aside0.mk (blk_below HBX.out hb_)
            replace HX0 := Aside0.mk (Kd.C_below HX0.out hb_)
            replace HX1 := Aside0.mk (Kd.C_below HX1.out hb_)
            replace HIZ := Aside0.mk (HIZ.out.below hb_)
            replace HBZ := Aside0.mk (blk_below HBZ.out hb_)
            clear z0_ z1_ z2_ z3_
            clear d0 d1 d2 d3
            clear hb_
            go_wp2_with fail
            go_ret
            exact ⟨ret_bool rfl, HB.out⟩
          · skip
            have HQ1 := Aside0.mk hq1
            have HW2 : Aside0 (withinB [ci] ps = true) := ⟨by rw [HWI.out, hq1]; rfl⟩
            clear hq1
            go_wp2_with fail
            have hl : Kd.C (Kd.int .i64) (w15_.alloc (.cells #[.int .i64 ci] 3)) (some ⟨w15_.heap.size, 0, none⟩) 1 [ci] := C_flat (α := Int) (d := Kd.int .i64) (blk_new w15_ _) (fun n => [.int .i64 n]) (by show 1 ≤ _; omega) rfl (fun _ => rfl)
            have hbn := b1 w15_ (.cells #[.int .i64 ci] 3)
            refine (within_l (some ⟨w15_.heap.size, 0, none⟩) Ax0 1 cx0 [ci] ps _ hl (Kd.C_below HX0.out hbn)).mono ?_
            rintro e w16_ ⟨rfl, hb_⟩
            replace HB := Aside0.mk (bt HB.out (bt hbn hb_))
            replace HBX := Aside0.mk (blk_below HBX.out (bt hbn hb_))
            replace HX0 := Aside0.mk (Kd.C_below HX0.out (bt hbn hb_))
            replace HX1 := Aside0.mk (Kd.C_below HX1.out (bt hbn hb_))
            replace HIZ := Aside0.mk (HIZ.out.below (bt hbn hb_))
            replace HBZ := Aside0.mk (blk_below HBZ.out (bt hbn hb_))
            clear z0_ z1_ z2_ z3_
            clear d0 d1 d2 d3
            clear hl hbn hb_
            rw [HW2.out]
            have d0 := (blk_cell HBX.out 0).trans rfl
            have d1 := (blk_cell HBX.out 1).trans rfl
            have d2 := (blk_cell HBX.out 2).trans rfl
            have d3 := (blk_cell HBX.out 3).trans rfl
            have z0_ := (blk_cell HBZ.out 0).trans rfl
            have z1_ := (blk_cell HBZ.out 1).trans rfl
            have z2_ := (blk_cell HBZ.out 2).trans rfl
            have z3_ := (blk_cell HBZ.out 3).trans rfl
            go_wp2_with fail
            have hl : Kd.C (Kd.int .i64) (w16_.alloc (.cells #[.int .i64 ci] 3)) (some ⟨w16_.heap.size, 0, none⟩) 1 [ci] := C_flat (α := Int) (d := Kd.int .i64) (blk_new w16_ _) (fun n => [.int .i64 n]) (by show 1 ≤ _; omega) rfl (fun _ => rfl)
            have hbn := b1 w16_ (.cells #[.int .i64 ci] 3)
            refine (within_l (some ⟨w16_.heap.size, 0, none⟩) Ax1 1 cx1 [ci] qs _ hl (Kd.C_below HX1.out hbn)).mono ?_
            rintro e w17_ ⟨rfl, hb_⟩
            replace HB := Aside0.mk (bt HB.out (bt hbn hb_))
            replace HBX := Aside0.mk (blk_below HBX.out (bt hbn hb_))
            replace HX0 := Aside0.mk (Kd.C_below HX0.out (bt hbn hb_))
            replace HX1 := Aside0.mk (Kd.C_below HX1.out (bt hbn hb_))
            replace HIZ := Aside0.mk (HIZ.out.below (bt hbn hb_))
            replace HBZ := Aside0.mk (blk_below HBZ.out (bt hbn hb_))
            clear z0_ z1_ z2_ z3_
            clear d0 d1 d2 d3
            clear hl hbn hb_
            rw [HQ1.out]
            have d0 := (blk_cell HBX.out 0).trans rfl
            have d1 := (blk_cell HBX.out 1).trans rfl
            have d2 := (blk_cell HBX.out 2).trans rfl
            have d3 := (blk_cell HBX.out 3).trans rfl
            have z0_ := (blk_cell HBZ.out 0).trans rfl
            have z1_ := (blk_cell HBZ.out 1).trans rfl
            have z2_ := (blk_cell HBZ.out 2).trans rfl
            have z3_ := (blk_cell HBZ.out 3).trans rfl
            go_wp2_with fail
            refine (awake_c _).mono ?_
            rintro e w18_ ⟨rfl, hb_⟩
            replace HB := Aside0.mk (bt HB.out hb_)
            replace HBX := Aside0.mk (blk_below HBX.out hb_)
            replace HX0 := Aside0.mk (Kd.C_below HX0.out hb_)
            replace HX1 := Aside0.mk (Kd.C_below HX1.out hb_)
            replace HIZ := Aside0.mk (HIZ.out.below hb_)
            replace HBZ := Aside0.mk (blk_below HBZ.out hb_)
            clear z0_ z1_ z2_ z3_
            clear d0 d1 d2 d3
            clear hb_
            go_wp2_with fail
            go_ret
            exact ⟨ret_bool rfl, HB.out⟩
end Go.Proofs.Ytkbdphjnpieceaa.G
namespace Go.Proofs.Ytkbdphjnpieceaa.hillDivided
open Go.ChangeShapes Go.WideShapes Go.ChangeAt Go.RowKit Go.Proofs.Ytkbdphjnpieceaa.G
set_option linter.unusedVariables false
theorem own : ownKnob Try.prog.godebug = none := by kernel_rfl
theorem laidOut : laidOutB Try.prog = true := by kernel_rfl
set_option maxRecDepth 100000 in
theorem lifted (os : Os) (started : os.Started) (H : Type) (enc : TypeId × Value → H) :
    ReturnsInHanded {} Try.checked os 7 .any (Rows.hillDividedSpec.pre6 enc Try.prog Try.f7 Rows.hillDividedRow.domain false) (Rows.hillDividedSpec.post enc Try.prog Try.f7 false true false false) := by
  refine returnsInHanded_of_change_sized (C := Try.checked) own started (by kernel_rfl) Try.func7
    (ChangeSpec.witness6 (enc := enc) (C := Try.checked) false ⟨#[], #[.agg #[.slice none 0 0, .slice none 0 0, .slice none 0 0, .slice none 0 0], .int .u8 0, .int .u8 0, .int .u8 0], []⟩ 8 (by kernel_rfl) (by kernel_rfl) (by kernel_rfl) (by kernel_rfl)) ?_
  intro W base args ds gs before hval0 hW hcnd hsz0 _
  have hval : ∀ (j : Nat) t v, Try.f7.params[j]? = some t → args[j]? = some v → Value.okWide Try.prog W .any base t v := hval0
  have hW' := hW
  obtain ⟨p, q, hA0, hV, rfl, hfz, hnd⟩ := hW
  have hA : DataW.TrodAll enc Try.prog W 0 (fun _ => true) true Try.f7.params.toList args.toList ds p := hA0
  rw [Try.params7] at hA hval
  obtain ⟨v0, vs0, d0, ds0, p0, q0, hargs, rfl, rfl, h0, r0⟩ := trodAll_cons hA
  obtain ⟨v1, vs1, d1, ds1, p1, q1, rfl, rfl, rfl, h1, r1⟩ := trodAll_cons r0
  obtain ⟨v2, vs2, d2, ds2, p2, q2, rfl, rfl, rfl, h2, r2⟩ := trodAll_cons r1
  obtain ⟨v3, vs3, d3, ds3, p3, q3, rfl, rfl, rfl, h3, r3⟩ := trodAll_cons r2
  obtain ⟨rfl, rfl, rfl⟩ := trodAll_nil r3
  obtain rfl : args = #[v0, v1, v2, v3] := by cases args; simp_all
  obtain ⟨rfl, rfl⟩ := trodVars_none hV
  have k0 := h0
  have lt0 : ∀ x ∈ p0, x.block < W.heap.size := by obtain ⟨m, hm⟩ := k0; exact DataW.trod_lt m _ _ _ hm
  obtain ⟨a0, rfl, w0⟩ := open_land (hval 0 27 v0 rfl rfl) h0
  obtain ⟨a1, rfl, rfl, rfl, w1⟩ := open_int Try.underlying5 (hval 1 5 v1 rfl rfl) h1
  obtain ⟨a2, rfl, rfl, rfl, w2⟩ := open_int Try.underlying5 (hval 2 5 v2 rfl rfl) h2
  obtain ⟨a3, rfl, rfl, rfl, w3⟩ := open_int Try.underlying5 (hval 3 5 v3 rfl rfl) h3
  clear hA0 hval0 hsz0
  refine (G.hillDivided_c a0 a1 a2 a3 W w0 w1 w2 w3).mono fun e W' ⟨he, bel⟩ => ?_
  subst he
  exact ⟨_, rfl, _, _, _, [], _, [], hW', trodAll_mk1 (shut_bool Try.underlying4 _), (trodAll_cons_mk (Below.trod laidOut (by kernel_rfl) (of_decide_eq_true (by kernel_rfl)) k0 bel lt0) (trodAll_cons_mk (shut_int Try.underlying5 w1) (trodAll_cons_mk (shut_int Try.underlying5 w2) (trodAll_cons_mk (shut_int Try.underlying5 w3) trodAll_mk0)))), rfl, bel.frame _, fun h => by cases h⟩
theorem over : Rows.hillDividedRow.holds Try.pinned (OpenSpec.ofChange Rows.hillDividedSpec) :=
  OpenClaim.holds_of_wide 7 Try.f7 rfl rfl rfl rfl rfl rfl rfl ⟨rfl, rfl, rfl, rfl, rfl⟩ rfl rfl rfl rfl rfl (by kernel_rfl) Try.func7 (by kernel_rfl)
    (of_decide_eq_true (by kernel_rfl)) (by unfold Func.isWrapper; first | (rw [if_pos (by decide +kernel)]; kernel_rfl) | (rw [if_neg (by decide +kernel)]; exact ⟨rfl, rfl⟩))
    (fun os started H enc _ => lifted os started H enc)
theorem proved : Rows.HillDividedSaid := over
#print axioms proved
end Go.Proofs.Ytkbdphjnpieceaa.hillDivided
namespace Go.Proofs.Ytkbdphjnpieceaa
/-- The row, under a short name, for the claim. -/
theorem hillDivided_holds : Rows.HillDividedSaid := hillDivided.proved
end Go.Proofs.Ytkbdphjnpieceaa

