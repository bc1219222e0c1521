/- HillMoved holds: for every input the call returns true, and each argument reads afterwards as it read before; no condition. -/
import Derived.Test.YtkbdphjnpieceaaRows
import Derived.WalkKit
import Derived.ProofKit
import Derived.OpenShut
import Derived.ShutString
import Derived.ChangeOld
import Derived.Below
import Derived.SizedLaws
import Derived.Test.YtkbdphjnpieceaaC4
import Derived.Test.YtkbdphjnpieceaaA1
import Derived.Test.YtkbdphjnpieceaaP4
namespace Go.Proofs.Ytkbdphjnpieceaa.G
open Go.RowKit Go.Proofs.YtkbdphjnpieceaaW.PrintWords Go.Proofs.YtkbdphjnpieceaaW.PrintLast Go.Proofs.YtkbdphjnpieceaaW.PrintMore
set_option linter.unusedVariables false
set_option linter.unusedSimpArgs false
open Go.Sort (grow)
theorem onB_iff {x y : Int} : onB x y = true ↔ (0 ≤ x ∧ x ≤ 100) ∧ 0 ≤ y ∧ y ≤ 100 := by
 unfold onB inB
 simp only [Bool.and_eq_true, decide_eq_true_eq]
theorem rd_T55_set {xs : List S55} {i j : Int} (h0 : 0 ≤ i) (h1 : i < xs.length) (hj : 0 ≤ j) (x : S55) : rd_T55 (xs.set i.toNat x) j = if j = i then x else rd_T55 xs j := by
 unfold rd_T55
 rw [getD_set_]
 by_cases h : j = i
 ·
  subst h
  rw [if_pos ⟨rfl, by omega⟩, if_pos rfl]
 · rw [if_neg (fun c => h (by omega)), if_neg h]
theorem set_rd_T55 {xs : List S55} {i : Int} (h0 : 0 ≤ i) (h1 : i < xs.length) : xs.set i.toNat (rd_T55 xs i) = xs := by
 have hl : i.toNat < xs.length := by omega
 unfold rd_T55
 rw [List.getD_eq_getElem?_getD, List.getElem?_eq_getElem hl]
 exact List.set_getElem_self hl
section
variable {X : Rv} {ok : Nat → Prop} {base q : Nat} {W : World} {i : Int} {V : S55}
theorem Ow.at55 (h : Ow { X with ri := X.ri.set i.toNat V } ok base W) (hA : X.A1 = some ⟨q, 0, none⟩) (h0 : 0 ≤ i) (h1 : i < X.ri.length) :
  (∃ cells, W.heap[q]? = some (.cells cells 55 (0, 0))) ∧ ∀ k u, (g55 V)[k]? = some u → W.cell? ⟨q, i.toNat * 6 + k, none⟩ = some u := by
 obtain ⟨q', e, _, _, hc, hcc, _⟩ := Ow.ri (i := i) h h0 (by simpa using h1)
 have e' := hA.symm.trans e
 injection e' with e'
 injection e' with e'
 subst e'
 rw [rd_T55_set h0 h1 h0, if_pos rfl] at hcc
 exact ⟨hc, hcc⟩
theorem Ow.put55 (h : Ow { X with ri := X.ri.set i.toNat V } ok base W) (hA : X.A1 = some ⟨q, 0, none⟩) (h0 : 0 ≤ i) (h1 : i < X.ri.length) (k : Nat) (u : Value) (V' : S55) (hk : k < 6) (hx : (g55 V).take k ++ [u] ++ (g55 V).drop (k + 1) = g55 V') :
  Ow { X with ri := X.ri.set i.toNat V' } ok base (W.setCell ⟨q, i.toNat * 6 + k, none⟩ u) := by
 obtain ⟨q', e, _, _, _, _, hs⟩ := Ow.ri (i := i) h h0 (by simpa using h1)
 have e' := hA.symm.trans e
 injection e' with e'
 injection e' with e'
 subst e'
 rw [rd_T55_set h0 h1 h0, if_pos rfl] at hs
 have := hs k u V' hk hx
 simpa only [List.set_set] using this
end
def m65 (e n : Int) (r : Bool) (s : S65) : S65 := ⟨mvX e n r s.f0 s.f1, mvY e n r s.f0 s.f1, s.f2, s.f3⟩
def m55 (e n : Int) (r : Bool) (x : S55) : S55 := ⟨mvX e n r x.f0 x.f1, mvY e n r x.f0 x.f1, mvX e n r x.f2 x.f3, mvY e n r x.f2 x.f3, x.f4, x.f5⟩
def m61 (e n : Int) (r : Bool) (c : S61) : S61 := ⟨m55 e n r c.f0, c.f1, c.f2⟩
def m50 (r : Bool) (u : S50) : S50 := if r = true then ⟨u.f1, u.f0, u.f2⟩ else u
/-- The first i of a list changed. -/
def mixL {α : Type} (f : α → α) (i : Nat) (xs : List α) : List α := (xs.take i).map f ++ xs.drop i
theorem mix_len {α : Type} (f : α → α) (i : Nat) (xs : List α) : (mixL f i xs).length = xs.length := by unfold mixL; rw [List.length_append, List.length_map, List.length_take, List.length_drop]; omega
theorem mix_get {α : Type} (f : α → α) (i : Nat) (xs : List α) (z : α) (h : i < xs.length) : (mixL f i xs).getD i z = xs.getD i z := by
 unfold mixL
 have hl : ((xs.take i).map f).length = i := by rw [List.length_map, List.length_take]; omega
 rw [List.getD_eq_getElem?_getD, List.getElem?_append_right (by omega), hl, Nat.sub_self, List.getElem?_drop, Nat.add_zero, List.getD_eq_getElem?_getD]
theorem mix_set {α : Type} (f : α → α) (i : Nat) (xs : List α) (z : α) (h : i < xs.length) : (mixL f i xs).set i (f (xs.getD i z)) = mixL f (i + 1) xs := by
 unfold mixL
 have hl : ((xs.take i).map f).length = i := by rw [List.length_map, List.length_take]; omega
 rw [List.set_append_right _ _ (by omega), hl, Nat.sub_self, List.drop_eq_getElem_cons h, List.set_cons_zero, List.take_add_one, List.getElem?_eq_getElem h, List.getD_eq_getElem?_getD, List.getElem?_eq_getElem h]
 show _ = (xs.take i ++ [xs[i]]).map f ++ xs.drop (i + 1)
 rw [List.map_append, List.append_assoc]
 rfl
theorem mix_zero {α : Type} (f : α → α) (xs : List α) : mixL f 0 xs = xs := rfl
theorem mix_end {α : Type} (f : α → α) (xs : List α) : mixL f xs.length xs = xs.map f := by unfold mixL; rw [List.take_length, List.drop_length, List.append_nil]
theorem mix_id {α : Type} (f : α → α) (hf : ∀ x, f x = x) (i : Nat) (xs : List α) : mixL f i xs = xs := by
 have : f = id := funext hf
 unfold mixL
 rw [this, List.map_id, List.take_append_drop]
theorem getD_map_in {α β : Type} (f : α → β) (xs : List α) (i : Nat) (z : α) (z' : β) (h : i < xs.length) : (xs.map f).getD i z' = f (xs.getD i z) := by
 rw [List.getD_eq_getElem?_getD, List.getElem?_map, List.getElem?_eq_getElem h, List.getD_eq_getElem?_getD, List.getElem?_eq_getElem h]
 rfl
theorem mvC_f0 (e n : Int) (r : Bool) (c : S61) : cCl (m61 e n r c) = mvC e n r (cCl c) := rfl
theorem cSu_m50 (r : Bool) (u : S50) : cSu (m50 r u) = mvU r (cSu u) := by cases r <;> rfl
/-- All places moved, or turned. -/
theorem moved_law {R X : Rv} {a b e n : Int} {r : Bool} (hC : R.lv.check = 0) (hF : R.Few) (ha : 0 ≤ a ∧ a < R.st.length) (hb : 0 ≤ b ∧ b < R.st.length) (hne : a ≠ b) (hc1 : 1 ≤ R.ca.length) (hu1 : 1 ≤ R.su.length)
  (hs : X.st = R.st.map (m65 e n r)) (hr : X.ri = R.ri.map (m55 e n r)) (hc : X.ca = R.ca.map (fun c => c.map (m61 e n r))) (hu : X.su = R.su.map (m50 r)) : X.Few ∧ (X.lv.check = 0 → Agree R.lv X.lv a b) := by
 have l0 : X.lv.st.length = R.lv.st.length := by rw [lv_len0, lv_len0, hs, List.length_map]
 have l1 : X.lv.ri.length = R.lv.ri.length := by show (X.ri.map cWl).length = (R.ri.map cWl).length; rw [hr]; simp
 have l2 : X.lv.ca.length = R.lv.ca.length := by rw [lv_len2, lv_len2, hc, List.length_map]
 have l3 : X.lv.su.length = R.lv.su.length := by rw [lv_len3, lv_len3, hu, List.length_map]
 have e0 : ∀ i : Int, 0 ≤ i → i < R.st.length → rd_T85 X.lv.st i = mvS e n r (rd_T85 R.lv.st i) := fun i h0 h1 => by
  have : X.lv.st = R.lv.st.map (mvS e n r) := by show X.st.map cSt = (R.st.map cSt).map (mvS e n r); rw [hs, List.map_map, List.map_map]; rfl
  rw [this]
  exact getD_map_in _ _ _ _ _ (by rw [lv_len0]; omega)
 have e1 : ∀ i : Int, 0 ≤ i → i < R.lv.ri.length → rd_T86 X.lv.ri i = mvW e n r (rd_T86 R.lv.ri i) := fun i h0 h1 => by
  have : X.lv.ri = R.lv.ri.map (mvW e n r) := by show X.ri.map cWl = (R.ri.map cWl).map (mvW e n r); rw [hr, List.map_map, List.map_map]; rfl
  rw [this]
  exact getD_map_in _ _ _ _ _ (by omega)
 have e2 : ∀ k : Int, 0 ≤ k → k < R.lv.ca.length → rd_L9 X.lv.ca k = (rd_L9 R.lv.ca k).map (mvC e n r) := fun k h0 h1 => by
  have : X.lv.ca = R.lv.ca.map (fun c => c.map (mvC e n r)) := by
   show X.ca.map (fun c => c.map cCl) = (R.ca.map (fun c => c.map cCl)).map (fun c => c.map (mvC e n r))
   rw [hc, List.map_map, List.map_map]
   refine List.map_congr_left fun c _ => ?_
   show (c.map (m61 e n r)).map cCl = (c.map cCl).map (mvC e n r)
   rw [List.map_map, List.map_map]
   rfl
  rw [this]
  exact getD_map_in _ _ _ _ _ (by omega)
 have e3 : ∀ h : Int, 0 ≤ h → h < R.lv.su.length → rd_T99 X.lv.su h = mvU r (rd_T99 R.lv.su h) := fun h h0 h1 => by
  have : X.lv.su = R.lv.su.map (mvU r) := by
   show X.su.map cSu = (R.su.map cSu).map (mvU r)
   rw [hu, List.map_map, List.map_map]
   exact List.map_congr_left fun u _ => cSu_m50 r u
  rw [this]
  exact getD_map_in _ _ _ _ _ (by omega)
 refine ⟨⟨by rw [hs, List.length_map]; exact hF.s, by rw [hr, List.length_map]; exact hF.r, by rw [hu, List.length_map]; exact hF.u, by rw [hc, List.length_map]; exact hF.c, fun j hj => ?_⟩, fun hX => Same.agree ⟨l0, l1, l2, l3, ?_, ?_, fun i m i0 i1 => ?_, fun k k0 k1 => ?_, fun h h0 h1 => ?_⟩ hC hX
  (fun k h k0 k1 q0 q1 => ask_mk (at_pair ha hb ⟨k0, by rw [lv_len2] at k1; exact k1⟩ ⟨q0, by rw [lv_len3] at q1; exact q1⟩) hne) (by rw [lv_len2]; omega) (by rw [lv_len3]; omega)⟩
 ·
  rw [hc, List.length_map] at hj
  rw [hc, getD_map_in _ _ _ [] _ hj, List.length_map]
  exact hF.cc j hj
 · rw [e0 a ha.1 ha.2]; rfl
 · rw [e0 a ha.1 ha.2]; rfl
 ·
  rw [e0 a ha.1 ha.2, e0 b hb.1 hb.2, e1 i i0 i1]
  exact block_mv e n r _ (upS (rd_T85 R.lv.st a) m) _
 ·
  refine ⟨by rw [e2 k k0 k1, List.length_map], fun h i i0 i1 => ?_⟩
  unfold clB
  rw [e2 k k0 k1, e0 a ha.1 ha.2, e0 b hb.1 hb.2]
  have : rd_T88 ((rd_L9 R.lv.ca k).map (mvC e n r)) i = mvC e n r (rd_T88 (rd_L9 R.lv.ca k) i) := getD_map_in _ _ _ _ _ (by omega)
  rw [this]
  show (inB h (rd_T88 (rd_L9 R.lv.ca k) i).f1 (rd_T88 (rd_L9 R.lv.ca k) i).f2 && blocksB (mvW e n r (rd_T88 (rd_L9 R.lv.ca k) i).f0) _ _) = _
  rw [block_mv]
 ·
  rw [e3 h h0 h1, e0 a ha.1 ha.2, e0 b hb.1 hb.2, mir_mv]
  refine ⟨?_, rfl⟩
  unfold mvU
  split <;> rfl
section
variable {X : Rv} {ok okw : Nat → Prop} {base q : Nat} {W : World} {i : Int}
theorem rd_T65_set {xs : List S65} {i : Int} (h0 : 0 ≤ i) (h1 : i < xs.length) (x : S65) : rd_T65 (xs.set i.toNat x) i = x := by
 unfold rd_T65
 rw [getD_set_, if_pos ⟨rfl, by omega⟩]
/-- A station of the land: its cells, and a store into one. -/
theorem Ow.at65 {V : S65} (h : Ow { X with st := X.st.set i.toNat V } ok base W) (hA : X.A0 = some ⟨q, 0, none⟩) (h0 : 0 ≤ i) (h1 : i < X.st.length) :
  (∃ cells, W.heap[q]? = some (.cells cells 65 (0, 0))) ∧ (∀ k u, (g65 V)[k]? = some u → W.cell? ⟨q, i.toNat * 4 + k, none⟩ = some u) ∧
   ∀ (k : Nat) (u : Value) (V' : S65), k < 4 → (g65 V).take k ++ [u] ++ (g65 V).drop (k + 1) = g65 V' → Ow { X with st := X.st.set i.toNat V' } ok base (W.setCell ⟨q, i.toNat * 4 + k, none⟩ u) := by
 obtain ⟨r0, r1, r2, r3⟩ := h
 simp only [hA] at r0
 obtain ⟨c, hcl, hM, hcc, hfr⟩ := Kd.R_elem r0 z65 i h0 (by simpa using h1)
 have hc : c = g65 (rd_T65 (X.st.set i.toNat V) i) := k65_openM hM
 rw [rd_T65_set h0 h1] at hc
 subst hc
 refine ⟨Kd.R_typed r0 q (by simp [Value.ownBlock]), hcc, fun k u x' hk hx => ?_⟩
 obtain ⟨k0, k1⟩ := Kd.R_seg (okp := fun _ => False) (seg := [u]) (j := k) (x' := x') r0 i h0 (by simpa using h1) hcl hcc (by show k + 1 ≤ 4; omega) (by show k65.M W base _ x' _; rw [List.length_singleton, hx]; exact k65_mkM _ _ _ _) (fun _ h => h.elim)
 refine ⟨?_, Kd.R_over r1 r0 (by decide) k1, Kd.S_over' r2 (Kd.R_typed r0) (by decide) k1, Kd.R_over r3 r0 (by decide) k1⟩
 simp only [List.length_set, List.set_set, hA] at k0 ⊢
 exact k0
def g50 (x : S50) : List Value := [.int .i64 x.f0, .int .i64 x.f1, .int .i64 x.f2]
theorem rd_T50_set {xs : List S50} {i : Int} (h0 : 0 ≤ i) (h1 : i < xs.length) (x : S50) : rd_T50 (xs.set i.toNat x) i = x := by
 unfold rd_T50
 rw [getD_set_, if_pos ⟨rfl, by omega⟩]
theorem Ow.at50 {V : S50} (h : Ow { X with su := X.su.set i.toNat V } ok base W) (hA : X.A3 = some ⟨q, 0, none⟩) (h0 : 0 ≤ i) (h1 : i < X.su.length) :
  (∃ cells, W.heap[q]? = some (.cells cells 50 (0, 0))) ∧ (∀ k u, (g50 V)[k]? = some u → W.cell? ⟨q, i.toNat * 3 + k, none⟩ = some u) ∧
   ∀ (k : Nat) (u : Value) (V' : S50), k < 3 → (g50 V).take k ++ [u] ++ (g50 V).drop (k + 1) = g50 V' → Ow { X with su := X.su.set i.toNat V' } ok base (W.setCell ⟨q, i.toNat * 3 + k, none⟩ u) := by
 obtain ⟨r0, r1, r2, r3⟩ := h
 simp only [hA] at r3
 obtain ⟨c, hcl, hM, hcc, hfr⟩ := Kd.R_elem r3 z50 i h0 (by simpa using h1)
 have hc : c = g50 (rd_T50 (X.su.set i.toNat V) i) := k50_open (k50.K_of_M hM)
 rw [rd_T50_set h0 h1] at hc
 subst hc
 refine ⟨Kd.R_typed r3 q (by simp [Value.ownBlock]), hcc, fun k u x' hk hx => ?_⟩
 obtain ⟨k0, k1⟩ := Kd.R_seg (okp := fun _ => False) (seg := [u]) (j := k) (x' := x') r3 i h0 (by simpa using h1) hcl hcc (by show k + 1 ≤ 3; omega) (by show k50.M W base _ x' _; rw [List.length_singleton, hx]; exact k50_mkM _ _ _ _) (fun _ h => h.elim)
 refine ⟨Kd.R_over r0 r3 (by decide) k1, Kd.R_over r1 r3 (by decide) k1, Kd.S_over' r2 (Kd.R_typed r3) (by decide) k1, ?_⟩
 simp only [List.length_set, List.set_set, hA] at k0 ⊢
 exact k0
def g61 (x : S61) : List Value := [.int .i64 x.f0.f0, .int .i64 x.f0.f1, .int .i64 x.f0.f2, .int .i64 x.f0.f3, .int .i64 x.f0.f4, .int .i64 x.f0.f5, .int .i64 x.f1, .int .i64 x.f2]
theorem rd_T61_set {xs : List S61} {i : Int} (h0 : 0 ≤ i) (h1 : i < xs.length) (x : S61) : rd_T61 (xs.set i.toNat x) i = x := by
 unfold rd_T61
 rw [getD_set_, if_pos ⟨rfl, by omega⟩]
/-- A cloud of a case that is lent: its cells, and a store into one. -/
theorem Lent.at61 {k j : Int} {q p c : Nat} {v : Value} {xs : List S61} {V : S61} (hL : Lent X k q ok okw base v W) (h : Kd.R k61 61 W base okw (.slice (some ⟨p, 0, none⟩) xs.length c) (xs.set j.toNat V)) (h0 : 0 ≤ j) (h1 : j < xs.length) :
  (∃ cells, W.heap[p]? = some (.cells cells 61 (0, 0))) ∧ base ≤ p ∧ (∀ k u, (g61 V)[k]? = some u → W.cell? ⟨p, j.toNat * 8 + k, none⟩ = some u) ∧
   ∀ (m : Nat) (u : Value) (V' : S61), m < 8 → (g61 V).take m ++ [u] ++ (g61 V).drop (m + 1) = g61 V' →
    Lent X k q ok okw base v (W.setCell ⟨p, j.toNat * 8 + m, none⟩ u) ∧ Kd.R k61 61 (W.setCell ⟨p, j.toNat * 8 + m, none⟩ u) base okw (.slice (some ⟨p, 0, none⟩) xs.length c) (xs.set j.toNat V') := by
 obtain ⟨cc, hcl, hM, hcc, hfr⟩ := Kd.R_elem h z61 j h0 h1
 have hc : cc = g61 (rd_T61 (xs.set j.toNat V) j) := k61_open (k61.K_of_M hM)
 rw [rd_T61_set h0 h1] at hc
 subst hc
 refine ⟨Kd.R_typed h p (by simp [Value.ownBlock]), Kd.R_base h p (by simp [Value.ownBlock]), hcc, fun m u x' hm hx => ?_⟩
 obtain ⟨k0, k1⟩ := Kd.R_seg (okp := fun _ => False) (seg := [u]) (j := m) (x' := x') h j h0 h1 hcl hcc (by show m + 1 ≤ 8; omega) (by show k61.M W base _ x' _; rw [List.length_singleton, hx]; exact k61_mkM _ _ _ _) (fun _ h => h.elim)
 refine ⟨hL.grown h k1, ?_⟩
 rw [List.set_set] at k0
 exact k0
/-- The case is given back as it lies. -/
theorem Lent.give {q : Nat} {v : Value} {xs : List S61} (h : Lent X i q ok okw base v W) (hR : Kd.R k61 61 W base okw v xs) (hA : X.A2 = some ⟨q, 0, none⟩) : Ow { X with ca := X.ca.set i.toNat xs } ok base W := by
 refine ⟨h.r0, h.r1, ?_, h.r3⟩
 simp only [List.length_set, hA]
 exact Kd.H_back h.r2 (show (Kd.slice 61 k61).M W base okw xs [v] from ⟨v, rfl, hR⟩) (fun k hk => hk)
end

theorem two_new (w : World) (o o' : Obj) : ((w.alloc o).alloc o').heap[w.heap.size + 1]? = some o' := by have h := blk_new (w.alloc o) o'; simpa using h
set_option maxHeartbeats 2000000 in
set_option maxRecDepth 100000 in
theorem moved_c (x : S55) (e n : Int) (r : Bool) (w : World) (hx : ((0 ≤ x.f0 ∧ x.f0 ≤ 100) ∧ 0 ≤ x.f1 ∧ x.f1 ≤ 100) ∧ (0 ≤ x.f2 ∧ x.f2 ≤ 100) ∧ 0 ≤ x.f3 ∧ x.f3 ≤ 100) (he : -20 ≤ e ∧ e ≤ 20) (hn : -20 ≤ n ∧ n ≤ 20) :
  Calls Try.prog 35 #[.agg #[.int .i64 x.f0, .int .i64 x.f1, .int .i64 x.f2, .int .i64 x.f3, .int .i64 x.f4, .int .i64 x.f5], .int .i64 e, .int .i64 n, .bool r] w fun z w' =>
   z = .returned (.agg #[.int .i64 (m55 e n r x).f0, .int .i64 (m55 e n r x).f1, .int .i64 (m55 e n r x).f2, .int .i64 (m55 e n r x).f3, .int .i64 (m55 e n r x).f4, .int .i64 (m55 e n r x).f5]) ∧ Below w.heap.size w w' := by
 obtain ⟨⟨x0, x1⟩, x2, x3⟩ := hx
 cases r
 ·
  go_enter Try.func35, Try.ntmps35
  go_wp2_with fail
  exact bodyPost_ret (results_cell_row rfl _ _ (w.heap.size + 1) 55 #[.int .i64 (x.f0 + e), .int .i64 (x.f1 + n), .int .i64 (x.f2 + e), .int .i64 (x.f3 + n), .int .i64 x.f4, .int .i64 x.f5] (0, 0) _ rfl (two_new w _ _) Try.underlying55 rfl rfl) rfl ⟨rfl, below_alloc (b1 _ _) _⟩
 ·
  go_enter Try.func35, Try.ntmps35
  go_wp2_with fail
  exact bodyPost_ret (results_cell_row rfl _ _ (w.heap.size + 1) 55 #[.int .i64 (x.f1 + n), .int .i64 (x.f0 + e), .int .i64 (x.f3 + n), .int .i64 (x.f2 + e), .int .i64 x.f4, .int .i64 x.f5] (0, 0) _ rfl (two_new w _ _) Try.underlying55 rfl rfl) rfl ⟨rfl, below_alloc (b1 _ _) _⟩
theorem set_rd_T65 {xs ys : List S65} {i : Int} (h0 : 0 ≤ i) (h1 : i < xs.length) (h : xs.getD i.toNat z65 = rd_T65 ys i) : xs.set i.toNat (rd_T65 ys i) = xs := by
 have hl : i.toNat < xs.length := by omega
 rw [← h, List.getD_eq_getElem?_getD, List.getElem?_eq_getElem hl]
 exact List.set_getElem_self hl
theorem set_rd_T50 {xs ys : List S50} {i : Int} (h0 : 0 ≤ i) (h1 : i < xs.length) (h : xs.getD i.toNat z50 = rd_T50 ys i) : xs.set i.toNat (rd_T50 ys i) = xs := by
 have hl : i.toNat < xs.length := by omega
 rw [← h, List.getD_eq_getElem?_getD, List.getElem?_eq_getElem hl]
 exact List.set_getElem_self hl
theorem set_rd_T55' {xs ys : List S55} {i : Int} (h0 : 0 ≤ i) (h1 : i < xs.length) (h : xs.getD i.toNat z55 = rd_T55 ys i) : xs.set i.toNat (rd_T55 ys i) = xs := by
 have hl : i.toNat < xs.length := by omega
 rw [← h, List.getD_eq_getElem?_getD, List.getElem?_eq_getElem hl]
 exact List.set_getElem_self hl
theorem ri_mem {xs : List S55} {i : Int} (h0 : 0 ≤ i) (h1 : i < xs.length) : rd_T55 xs i ∈ xs := by
 unfold rd_T55
 rw [List.getD_eq_getElem?_getD, List.getElem?_eq_getElem (by omega : i.toNat < xs.length)]
 exact List.getElem_mem _
theorem set_rd_T61 {xs ys : List S61} {i : Int} (h0 : 0 ≤ i) (h1 : i < xs.length) (h : xs.getD i.toNat z61 = rd_T61 ys i) : xs.set i.toNat (rd_T61 ys i) = xs := by
 have hl : i.toNat < xs.length := by omega
 rw [← h, List.getD_eq_getElem?_getD, List.getElem?_eq_getElem hl]
 exact List.set_getElem_self hl
theorem cl_mem {xs : List S61} {i : Int} (h0 : 0 ≤ i) (h1 : i < xs.length) : rd_T61 xs i ∈ xs := by
 unfold rd_T61
 rw [List.getD_eq_getElem?_getD, List.getElem?_eq_getElem (by omega : i.toNat < xs.length)]
 exact List.getElem_mem _
theorem R61_hd {ok : Nat → Prop} {base n c : Nat} {W : World} {A : Option Addr} {ys : List S61} (h : Kd.R k61 61 W base ok (.slice A n c) ys) (hp : 0 < ys.length) : ∃ p, A = some ⟨p, 0, none⟩ := by
 obtain ⟨ad, e, _⟩ := (Kd.R_reads' h).2.2.2.2 hp
 rw [e] at h ⊢
 obtain ⟨q, rfl⟩ := Kd.R_head h
 exact ⟨q, rfl⟩
theorem Ow.hd0 {X : Rv} {ok : Nat → Prop} {base : Nat} {W : World} (h : Ow X ok base W) (hp : 0 < X.st.length) : ∃ q, X.A0 = some ⟨q, 0, none⟩ ∧ base ≤ q ∧ ∃ cells, W.heap[q]? = some (.cells cells 65 (0, 0)) := by
 have r := h.r0
 obtain ⟨ad, e, _⟩ := (Kd.R_reads' r).2.2.2.2 hp
 rw [e] at r
 obtain ⟨q, rfl⟩ := Kd.R_head r
 exact ⟨q, e, Kd.R_base r q rfl, Kd.R_typed r q (by simp [Value.ownBlock])⟩
theorem Ow.hd1 {X : Rv} {ok : Nat → Prop} {base : Nat} {W : World} (h : Ow X ok base W) (hp : 0 < X.ri.length) : ∃ q, X.A1 = some ⟨q, 0, none⟩ ∧ base ≤ q ∧ ∃ cells, W.heap[q]? = some (.cells cells 55 (0, 0)) := by
 have r := h.r1
 obtain ⟨ad, e, _⟩ := (Kd.R_reads' r).2.2.2.2 hp
 rw [e] at r
 obtain ⟨q, rfl⟩ := Kd.R_head r
 exact ⟨q, e, Kd.R_base r q rfl, Kd.R_typed r q (by simp [Value.ownBlock])⟩
theorem Ow.hd3 {X : Rv} {ok : Nat → Prop} {base : Nat} {W : World} (h : Ow X ok base W) (hp : 0 < X.su.length) : ∃ q, X.A3 = some ⟨q, 0, none⟩ ∧ base ≤ q ∧ ∃ cells, W.heap[q]? = some (.cells cells 50 (0, 0)) := by
 have r := h.r3
 obtain ⟨ad, e, _⟩ := (Kd.R_reads' r).2.2.2.2 hp
 rw [e] at r
 obtain ⟨q, rfl⟩ := Kd.R_head r
 exact ⟨q, e, Kd.R_base r q rfl, Kd.R_typed r q (by simp [Value.ownBlock])⟩
theorem st_mem {xs : List S65} {i : Int} (h0 : 0 ≤ i) (h1 : i < xs.length) : rd_T65 xs i ∈ xs := by
 unfold rd_T65
 rw [List.getD_eq_getElem?_getD, List.getElem?_eq_getElem (by omega : i.toNat < xs.length)]
 exact List.getElem_mem _
theorem st_bd {L : Lv} (h : L.check = 0) {s : S85} (hs : s ∈ L.st) : (0 ≤ s.f0 ∧ s.f0 ≤ 100) ∧ 0 ≤ s.f1 ∧ s.f1 ≤ 100 := by
 have hg := Lv.good_of h
 unfold goodL at hg
 simp only [Bool.and_eq_true] at hg
 have := List.all_eq_true.1 hg.1.1.1.1.2 s hs
 unfold stOK at this
 simp only [Bool.and_eq_true, onB_iff] at this
 exact this.1.1
theorem wall_bd {x : S86} (h : wallOK x = true) : ((0 ≤ x.f0 ∧ x.f0 ≤ 100) ∧ 0 ≤ x.f1 ∧ x.f1 ≤ 100) ∧ (0 ≤ x.f2 ∧ x.f2 ≤ 100) ∧ 0 ≤ x.f3 ∧ x.f3 ≤ 100 := by
 unfold wallOK at h
 simp only [Bool.and_eq_true, onB_iff] at h
 exact ⟨h.1.1.1.1, h.1.1.1.2⟩
theorem ri_bd {R : Rv} (h : R.lv.check = 0) {x : S55} (hx : x ∈ R.ri) : ((0 ≤ x.f0 ∧ x.f0 ≤ 100) ∧ 0 ≤ x.f1 ∧ x.f1 ≤ 100) ∧ (0 ≤ x.f2 ∧ x.f2 ≤ 100) ∧ 0 ≤ x.f3 ∧ x.f3 ≤ 100 := by
 have := ridge_ok h (cWl x) (List.mem_map.2 ⟨x, hx, rfl⟩)
 unfold ridgeOK at this
 rw [Bool.and_eq_true] at this
 exact wall_bd this.1
theorem cl_bd {R : Rv} (h : R.lv.check = 0) {c : List S61} (hc : c ∈ R.ca) {y : S61} (hy : y ∈ c) : ((0 ≤ y.f0.f0 ∧ y.f0.f0 ≤ 100) ∧ 0 ≤ y.f0.f1 ∧ y.f0.f1 ≤ 100) ∧ (0 ≤ y.f0.f2 ∧ y.f0.f2 ≤ 100) ∧ 0 ≤ y.f0.f3 ∧ y.f0.f3 ≤ 100 := by
 have := (case_ok h (c.map cCl) (List.mem_map.2 ⟨c, hc, rfl⟩)).2
 rw [List.all_eq_true] at this
 have := this (cCl y) (List.mem_map.2 ⟨y, hy, rfl⟩)
 unfold cloudOK at this
 simp only [Bool.and_eq_true] at this
 exact wall_bd this.1.1
def moved6.T10 : Bool × List (List Nat × List Nat) := (true, [([], []), ([], []), ([], []), ([2], [2]), ([3], [3]), ([4], [4]), ([], []), ([5, 6], [5, 6]), ([], []), ([8], [8]), ([9], [9]), ([10], [10]), ([], []), ([11, 12], [11, 12]), ([0, 0, 2, 3, 4, 5, 6, 7, 11], [0]), ([14, 0, 2, 3, 4, 5, 6, 7, 11], [14]), ([15, 7, 0, 2, 3, 4, 5, 6, 7, 11], [7, 15]), ([1, 0, 1, 2, 3, 4, 5, 6, 7, 8, 9, 10, 11, 12, 13, 14, 15, 16], [1]), ([17, 0, 1, 2, 3, 4, 5, 6, 7, 8, 9, 10, 11, 12, 13, 14, 15, 16], [17]), ([18, 13, 16, 0, 1, 2, 3, 4, 5, 6, 7, 8, 9, 10, 11, 12, 13, 14, 15, 16], [13, 18])])
def moved6.B10 : List Nat := [0, 0, 0, 4, 12, 28, 0, 124, 0, 256, 768, 1792, 0, 7936, 4093, 20477, 53245, 131071, 262143, 524287]
theorem moved6.tab10 : rtab .any (opsOf Try.f6 10) = moved6.T10 := by kernel_rfl
theorem moved6.bits10 : waitsOk moved6.T10.2 moved6.B10 = true := by kernel_rfl
def moved6.T12 : Bool × List (List Nat × List Nat) := (true, [([], []), ([], []), ([], []), ([2], [2]), ([3], [3]), ([4], [4]), ([], []), ([6], [6]), ([7], [7]), ([8], [8]), ([0, 0, 2, 3, 4, 5, 9], [0]), ([10, 0, 2, 3, 4, 5, 9], [10]), ([11, 5, 0, 2, 3, 4, 5, 9], [5, 11]), ([1, 0, 1, 2, 3, 4, 5, 6, 7, 8, 9, 10, 11, 12], [1]), ([13, 0, 1, 2, 3, 4, 5, 6, 7, 8, 9, 10, 11, 12], [13]), ([14, 9, 12, 0, 1, 2, 3, 4, 5, 6, 7, 8, 9, 10, 11, 12], [9, 14])])
def moved6.B12 : List Nat := [0, 0, 0, 4, 12, 28, 0, 64, 192, 448, 1021, 2045, 4093, 8191, 16383, 32767]
theorem moved6.tab12 : rtab .any (opsOf Try.f6 12) = moved6.T12 := by kernel_rfl
theorem moved6.bits12 : waitsOk moved6.T12.2 moved6.B12 = true := by kernel_rfl
def moved6.T16 : Bool × List (List Nat × List Nat) := (true, [([], []), ([0], [0]), ([], []), ([], []), ([3], [3]), ([], []), ([4, 5], [4, 5]), ([6], [6]), ([], []), ([], []), ([], []), ([7, 8, 9, 10], [7, 8, 9, 10]), ([1, 2, 0, 1, 2, 3, 4, 5, 6, 7, 8, 9, 10, 11], [1, 2]), ([12, 11, 11, 0, 1, 2, 3, 4, 5, 6, 7, 8, 9, 10, 11], [11, 12])])
def moved6.B16 : List Nat := [0, 1, 0, 0, 8, 0, 56, 120, 0, 0, 0, 2040, 4095, 8191]
theorem moved6.tab16 : rtab .any (opsOf Try.f6 16) = moved6.T16 := by kernel_rfl
theorem moved6.bits16 : waitsOk moved6.T16.2 moved6.B16 = true := by kernel_rfl
def moved6.T23 : Bool × List (List Nat × List Nat) := (true, [([], []), ([0], [0]), ([], []), ([1, 2], [1, 2]), ([3], [3]), ([], []), ([], []), ([6], [6]), ([], []), ([7, 8], [7, 8]), ([9], [9]), ([], []), ([10, 11], [10, 11]), ([12], [12]), ([13], [13]), ([], []), ([], []), ([], []), ([14, 15, 16, 17], [14, 15, 16, 17]), ([4, 5, 0, 1, 2, 3, 4, 5, 6, 7, 8, 9, 10, 11, 12, 13, 14, 15, 16, 17, 18], [4, 5]), ([19, 0, 1, 2, 3, 4, 5, 6, 7, 8, 9, 10, 11, 12, 13, 14, 15, 16, 17, 18], [19]), ([20, 18, 18, 0, 1, 2, 3, 4, 5, 6, 7, 8, 9, 10, 11, 12, 13, 14, 15, 16, 17, 18], [18, 20])])
def moved6.B23 : List Nat := [0, 1, 0, 7, 15, 0, 0, 64, 0, 448, 960, 0, 4032, 8128, 16320, 0, 0, 0, 262080, 524287, 1048575, 2097151]
theorem moved6.tab23 : rtab .any (opsOf Try.f6 23) = moved6.T23 := by kernel_rfl
theorem moved6.bits23 : waitsOk moved6.T23.2 moved6.B23 = true := by kernel_rfl
def moved6.T27 : Bool × List (List Nat × List Nat) := (true, [([], []), ([0], [0]), ([], []), ([], []), ([3], [3]), ([], []), ([], []), ([6], [6]), ([], []), ([7, 8], [7, 8]), ([9], [9]), ([10], [10]), ([], []), ([12], [12]), ([], []), ([13, 14], [13, 14]), ([15], [15]), ([16], [16]), ([1, 2, 0, 1, 2, 6, 7, 8, 9, 10, 11, 17], [1, 2]), ([18, 0, 1, 2, 6, 7, 8, 9, 10, 11, 17], [18]), ([19, 11, 0, 1, 2, 6, 7, 8, 9, 10, 11, 17], [11, 19]), ([4, 5, 0, 1, 2, 3, 4, 5, 6, 7, 8, 9, 10, 11, 12, 13, 14, 15, 16, 17, 18, 19, 20], [4, 5]), ([21, 0, 1, 2, 3, 4, 5, 6, 7, 8, 9, 10, 11, 12, 13, 14, 15, 16, 17, 18, 19, 20], [21]), ([22, 17, 20, 0, 1, 2, 3, 4, 5, 6, 7, 8, 9, 10, 11, 12, 13, 14, 15, 16, 17, 18, 19, 20], [17, 22])])
def moved6.B27 : List Nat := [0, 1, 0, 0, 8, 0, 0, 64, 0, 448, 960, 1984, 0, 4096, 0, 28672, 61440, 126976, 262087, 524231, 1048519, 2097151, 4194303, 8388607]
theorem moved6.tab27 : rtab .any (opsOf Try.f6 27) = moved6.T27 := by kernel_rfl
theorem moved6.bits27 : waitsOk moved6.T27.2 moved6.B27 = true := by kernel_rfl
set_option maxHeartbeats 8000000 in
set_option maxRecDepth 100000 in
theorem hillMoved_c (a0 : Rv) (a1 : Int) (a2 : Int) (a3 : Int) (a4 : Bool) (w : World) (h0 : a0.In w) (h1 : (Lit.int .u8 a1).wf = true) (h2 : (Lit.int .u8 a2).wf = true) (h3 : (Lit.int .u8 a3).wf = true) :
  Calls Try.prog 6 #[.agg a0.cells, .int .u8 a1, .int .u8 a2, .int .u8 a3, .bool a4] w fun e w' => e = .returned (.bool true) ∧ Below w.heap.size w w' := by
 have HI := Aside0.mk h0
 have HB := Aside0.mk (b1 w (.cells a0.cells 27))
 have HBX := Aside0.mk (blk_new w (.cells a0.cells 27))
 have l0 := h0.r0.2.1
 have l1 := h0.r1.2.1
 have l2 := h0.r2.2.1
 have l3 := h0.r3.2.1
 clear h0
 simp only [Rv.cells] at *
 by_cases hth : a0.rdy = true
 rotate_left
 ·
  have HT : Aside0 (a0.rdy = false) := ⟨by simpa using hth⟩
  clear hth
  go_enter Try.func6, Try.ntmps6
  have d0 := (blk_cell HBX.out 0).trans rfl
  have d1 := (blk_cell HBX.out 1).trans rfl
  have d2 := (blk_cell HBX.out 2).trans rfl
  have d3 := (blk_cell HBX.out 3).trans rfl
  go_wp2_with fail
  refine (ready_c a0 _ (HI.out.below HB.out)).mono ?_
  rintro e w1_ ⟨rfl, hb_⟩
  replace HB := Aside0.mk (bt HB.out hb_)
  replace HBX := Aside0.mk (blk_below HBX.out hb_)
  clear d0 d1 d2 d3
  clear hb_
  have d0 := (blk_cell HBX.out 0).trans rfl
  have d1 := (blk_cell HBX.out 1).trans rfl
  have d2 := (blk_cell HBX.out 2).trans rfl
  have d3 := (blk_cell HBX.out 3).trans rfl
  rw [HT.out]
  go_wp2_with fail
  refine (awake_c _).mono ?_
  rintro e w2_ ⟨rfl, hb_⟩
  replace HB := Aside0.mk (bt HB.out hb_)
  replace HBX := Aside0.mk (blk_below HBX.out hb_)
  clear d0 d1 d2 d3
  clear hb_
  go_wp2_with fail
  go_ret
  exact ⟨ret_bool rfl, HB.out⟩
 have HT := Aside0.mk hth
 have HF := Aside0.mk (rdy_of hth).1
 have HC := Aside0.mk (rdy_of hth).2.1
 have HLEN := Aside0.mk (rdy_of hth).2.2
 clear hth
 obtain ⟨hs2, hs6, hr6, hc1, hc4, hu1, hu12⟩ := HLEN.out
 go_enter Try.func6, Try.ntmps6
 have d0 := (blk_cell HBX.out 0).trans rfl
 have d1 := (blk_cell HBX.out 1).trans rfl
 have d2 := (blk_cell HBX.out 2).trans rfl
 have d3 := (blk_cell HBX.out 3).trans rfl
 go_wp2_with fail
 refine (ready_c a0 _ (HI.out.below HB.out)).mono ?_
 rintro e w3_ ⟨rfl, hb_⟩
 replace HB := Aside0.mk (bt HB.out hb_)
 replace HBX := Aside0.mk (blk_below HBX.out hb_)
 clear d0 d1 d2 d3
 clear hb_
 have d0 := (blk_cell HBX.out 0).trans rfl
 have d1 := (blk_cell HBX.out 1).trans rfl
 have d2 := (blk_cell HBX.out 2).trans rfl
 have d3 := (blk_cell HBX.out 3).trans rfl
 rw [HT.out]
 go_wp2_with fail
 have HCC := Aside0.mk (cases_few HC.out)
 have q2 := u8_bd h2
 have q3 := u8_bd h3
 refine (pair_c a0 a1 _ hs2 (by omega) h1).mono ?_
 rintro e w4_ ⟨rfl, hb_⟩
 replace HB := Aside0.mk (bt HB.out hb_)
 replace HBX := Aside0.mk (blk_below HBX.out hb_)
 clear d0 d1 d2 d3
 clear hb_
 have d0 := (blk_cell HBX.out 0).trans rfl
 have d1 := (blk_cell HBX.out 1).trans rfl
 have d2 := (blk_cell HBX.out 2).trans rfl
 have d3 := (blk_cell HBX.out 3).trans rfl
 have HP := Aside0.mk (pair_bd (n := (a0.st.length : Int)) (q := a1) (by omega) (u8_bd h1).1)
 generalize pairA a0.st.length a1 = pa at *
 generalize pairB a0.st.length a1 = pb at *
 go_wp2_with fail
 refine (copied_v a0 _ (HI.out.below HB.out) (by omega) (by omega) (by omega) HCC.out (by omega)).mono ?_
 rintro e w5_ ⟨B0, e0_, B1, e1_, B2, e2_, B3, e3_, rfl, hOw, hb_⟩
 have HOW := Aside0.mk (Own.lower hOw HB.out.size)
 replace HB := Aside0.mk (bt HB.out hb_)
 replace HBX := Aside0.mk (blk_below HBX.out hb_)
 clear d0 d1 d2 d3
 clear hOw hb_
 go_upto_region 5 with (first | ((with_reducible refine gate_dst (N := 13) rfl ?_); refine box_event ?hg (N := 13) ?hd (cs := #[.slice none 0 0, .slice none 0 0, .slice none 0 0, .slice none 0 0]) (t := 27) ?hr ?_; (case hd => rfl); (case hg => rfl); (case hr => first | (go_simp; done) | (go_simp; rfl)); intro gx hg_ w6_ hbox_ hb_; have HGX := Aside0.mk (show w.heap.size < gx from by rw [hg_]; exact blk_lt HBX.out); replace HB := Aside0.mk (bt HB.out hb_); replace HBX := Aside0.mk (blk_below HBX.out hb_); replace HOW := Aside0.mk (HOW.out.below hb_); have HBZ := Aside0.mk hbox_; clear hbox_ hb_ hg_) | ((with_reducible refine gate_st (p := 13) rfl ?_); have c0 := (blk_cell (HBZ.out) 0).trans rfl; have f0 := blk_frozen (HBZ.out) 0; have c1 := (blk_cell (blk_set (HBZ.out) 0 (.slice B0 a0.st.length e0_)) 1).trans rfl; have f1 := blk_frozen (blk_set (HBZ.out) 0 (.slice B0 a0.st.length e0_)) 1; have c2 := (blk_cell (blk_set (blk_set (HBZ.out) 0 (.slice B0 a0.st.length e0_)) 1 (.slice B1 a0.ri.length e1_)) 2).trans rfl; have f2 := blk_frozen (blk_set (blk_set (HBZ.out) 0 (.slice B0 a0.st.length e0_)) 1 (.slice B1 a0.ri.length e1_)) 2; have c3 := (blk_cell (blk_set (blk_set (blk_set (HBZ.out) 0 (.slice B0 a0.st.length e0_)) 1 (.slice B1 a0.ri.length e1_)) 2 (.slice B2 a0.ca.length e2_)) 3).trans rfl; have f3 := blk_frozen (blk_set (blk_set (blk_set (HBZ.out) 0 (.slice B0 a0.st.length e0_)) 1 (.slice B1 a0.ri.length e1_)) 2 (.slice B2 a0.ca.length e2_)) 3; refine put_ev (p := 13) (w1 := ((((w6_.setCell ⟨gx, 0, none⟩ (.slice B0 a0.st.length e0_)).setCell ⟨gx, 1, none⟩ (.slice B1 a0.ri.length e1_)).setCell ⟨gx, 2, none⟩ (.slice B2 a0.ca.length e2_)).setCell ⟨gx, 3, none⟩ (.slice B3 a0.su.length e3_))) (fun x_ => Below w.heap.size w x_ ∧ x_.heap[w.heap.size]? = some (.cells #[.slice a0.A0 a0.st.length a0.c0, .slice a0.A1 a0.ri.length a0.c1, .slice a0.A2 a0.ca.length a0.c2, .slice a0.A3 a0.su.length a0.c3] 27 (0, 0)) ∧ Cp ⟨a0.st, a0.ri, a0.ca, a0.su, B0, B1, B2, B3, e0_, e1_, e2_, e3_⟩ gx w.heap.size x_) rfl rfl rfl ?hr ?hF ?_; (case hr => first | (go_simp; done) | (go_simp; rfl)); (case hF => exact ⟨below_set (below_set (below_set (below_set (HB.out) (Nat.le_of_lt HGX.out)) (Nat.le_of_lt HGX.out)) (Nat.le_of_lt HGX.out)) (Nat.le_of_lt HGX.out), blk_far (p := ⟨gx, 3, none⟩) (blk_far (p := ⟨gx, 2, none⟩) (blk_far (p := ⟨gx, 1, none⟩) (blk_far (p := ⟨gx, 0, none⟩) (HBX.out) (show _ ≠ gx from Nat.ne_of_lt HGX.out) _) (show _ ≠ gx from Nat.ne_of_lt HGX.out) _) (show _ ≠ gx from Nat.ne_of_lt HGX.out) _) (show _ ≠ gx from Nat.ne_of_lt HGX.out) _, ⟨blk_set (blk_set (blk_set (blk_set (HBZ.out) 0 (.slice B0 a0.st.length e0_)) 1 (.slice B1 a0.ri.length e1_)) 2 (.slice B2 a0.ca.length e2_)) 3 (.slice B3 a0.su.length e3_), Own.set27 (Own.set27 (Own.set27 (Own.set27 (HOW.out) (HBZ.out) 0 _) (blk_set (HBZ.out) 0 (.slice B0 a0.st.length e0_)) 1 _) (blk_set (blk_set (HBZ.out) 0 (.slice B0 a0.st.length e0_)) 1 (.slice B1 a0.ri.length e1_)) 2 _) (blk_set (blk_set (blk_set (HBZ.out) 0 (.slice B0 a0.st.length e0_)) 1 (.slice B1 a0.ri.length e1_)) 2 (.slice B2 a0.ca.length e2_)) 3 _, Nat.le_of_lt HGX.out⟩⟩); clear c0 f0 c1 f1 c2 f2 c3 f3 HOW HBZ HB HBX; rintro w7_ ⟨k0_, k1_, k2_⟩; have HB := Aside0.mk k0_; have HBX := Aside0.mk k1_; have CX := Aside0.mk k2_; clear k0_ k1_ k2_))
 obtain ⟨X, hX⟩ : ∃ X : Rv, X = ⟨a0.st, a0.ri, a0.ca, a0.su, B0, B1, B2, B3, e0_, e1_, e2_, e3_⟩ := ⟨_, rfl⟩
 rw [← hX] at CX
 have HXE := Aside0.mk (show X.st = a0.st ∧ X.ri = a0.ri ∧ X.ca = a0.ca ∧ X.su = a0.su from by rw [hX]; exact ⟨rfl, rfl, rfl, rfl⟩)
 clear hX
 have CQ := Aside0.mk (show Cq X gx (fun _ => True) w.heap.size w7_ from ⟨CX.out.box, CX.out.own.r0, CX.out.own.r1, CX.out.own.r2, CX.out.own.r3⟩)
 clear CX
 have he5 : 0 ≤ a2 % 40 ∧ a2 % 40 < 40 := ⟨Int.emod_nonneg _ (by decide), Int.emod_lt_of_pos _ (by decide)⟩
 have hn5 : 0 ≤ a3 % 40 ∧ a3 % 40 < 40 := ⟨Int.emod_nonneg _ (by decide), Int.emod_lt_of_pos _ (by decide)⟩
 have d0 := (blk_cell HBX.out 0).trans rfl
 have d1 := (blk_cell HBX.out 1).trans rfl
 have d2 := (blk_cell HBX.out 2).trans rfl
 have d3 := (blk_cell HBX.out 3).trans rfl
 go_upto_region 6 with (fail)
 generalize he_ : a2 % 40 - 20 = e at *
 generalize hn_ : a3 % 40 - 20 = n at *
 have hee : -20 ≤ e ∧ e ≤ 20 := by omega
 have hnn : -20 ≤ n ∧ n ≤ 20 := by omega
 clear he_ hn_ he5 hn5 q2 q3
 clear d0 d1 d2 d3
 go_wp2_with fail
 rw [show X = { X with st := a0.st, ri := a0.ri, ca := a0.ca, su := a0.su } from by obtain ⟨q0, q1, q2, q3⟩ := HXE.out; rw [← q0, ← q1, ← q2, ← q3]] at CQ
 clear HXE
 go_loopg [16] a0.st.length (fun gg s16 wr => ∃ i : Int, s16 = .int .i64 i ∧ 0 ≤ i ∧ i ≤ (a0.st.length : Int) ∧ (a0.st.length : Int) - i ≤ (gg : Int) ∧ Aside0 (Below w.heap.size w wr) ∧ Aside0 (wr.heap[w.heap.size]? = some (.cells #[.slice a0.A0 a0.st.length a0.c0, .slice a0.A1 a0.ri.length a0.c1, .slice a0.A2 a0.ca.length a0.c2, .slice a0.A3 a0.su.length a0.c3] 27 (0, 0))) ∧ Aside0 (Cq { X with st := mixL (m65 e n a4) i.toNat a0.st, ri := a0.ri, ca := a0.ca, su := a0.su } gx (fun _ => True) w.heap.size wr))
 case atStart => exact ⟨0, rfl, by omega, by omega, by omega, HB, HBX, CQ⟩
 case round =>
  clear HB HBX CQ
  obtain ⟨i, rfl, i0, i1, hgi, HB, HBX, CQ⟩ := hrel
  obtain ⟨W2, rfl⟩ : ∃ W2 : World, W2 = wr := ⟨_, rfl⟩
  obtain ⟨Y, hY⟩ : ∃ Y : Rv, Y = { X with st := mixL (m65 e n a4) i.toNat a0.st, ri := a0.ri, ca := a0.ca, su := a0.su } := ⟨_, rfl⟩
  rw [← hY] at CQ
  have HYL := Aside0.mk (show Y.st.length = a0.st.length from by rw [hY]; exact mix_len _ _ _)
  have hyl := HYL.out
  have hbx := CQ.out.box
  rw [hyl] at hbx
  have HYB := Aside0.mk hbx
  clear hbx
  have d0 := (blk_cell HBX.out 0).trans rfl
  have d1 := (blk_cell HBX.out 1).trans rfl
  have d2 := (blk_cell HBX.out 2).trans rfl
  have d3 := (blk_cell HBX.out 3).trans rfl
  have x0_ := (blk_cell HYB.out 0).trans rfl
  have x1_ := (blk_cell HYB.out 1).trans rfl
  have x2_ := (blk_cell HYB.out 2).trans rfl
  have x3_ := (blk_cell HYB.out 3).trans rfl
  by_cases hlt : i < (a0.st.length : Int)
  ·
   obtain ⟨q, hA0, hqb, hcl⟩ := CQ.out.own.hd0 (by omega)
   have HN := Aside0.mk (show w.heap.size ≠ q ∧ gx ≠ q from by obtain ⟨cells, hc⟩ := hcl; exact ⟨blk_ne HBX.out hc (by decide), blk_ne CQ.out.box hc (by decide)⟩)
   have HQB := Aside0.mk hqb
   have HA0 := Aside0.mk hA0
   rw [hA0] at x0_ HYB
   clear hA0 hqb hcl
   have hsv : Y.st.getD i.toNat z65 = rd_T65 a0.st i := by rw [hY]; exact mix_get _ _ _ _ (by omega)
   have hmx : ∀ V : S65, V = m65 e n a4 (rd_T65 a0.st i) → Y.st.set i.toNat V = mixL (m65 e n a4) (i.toNat + 1) a0.st := fun V hV => by rw [hY, hV]; exact mix_set _ _ _ z65 (by omega)
   have HMX := Aside0.mk hmx
   have hbd := st_bd HC.out (s := cSt (rd_T65 a0.st i)) (List.mem_map.2 ⟨_, st_mem i0 hlt, rfl⟩)
   have HOW0 := Aside0.mk (show Ow { Y with st := Y.st.set i.toNat (rd_T65 a0.st i) } (fun _ => True) w.heap.size W2 from by rw [set_rd_T65 i0 (by omega) hsv]; exact CQ.out.own)
   clear hsv hmx
   generalize hsv_ : rd_T65 a0.st i = sv at *
   clear hsv_
   have hb0 : 0 ≤ sv.f0 ∧ sv.f0 ≤ 100 := hbd.1
   have hb1 : 0 ≤ sv.f1 ∧ sv.f1 ≤ 100 := hbd.2
   have HYE := Aside0.mk (show Y.ri = a0.ri ∧ Y.ca = a0.ca ∧ Y.su = a0.su ∧ Y.A0 = X.A0 ∧ Y.A1 = X.A1 ∧ Y.A2 = X.A2 ∧ Y.A3 = X.A3 ∧ Y.c0 = X.c0 ∧ Y.c1 = X.c1 ∧ Y.c2 = X.c2 ∧ Y.c3 = X.c3 from by rw [hY]; exact ⟨rfl, rfl, rfl, rfl, rfl, rfl, rfl, rfl, rfl, rfl, rfl⟩)
   have HY := Aside0.mk hY
   clear hbd hY
   go_upto_region 10 with (fail)
   have hix : i < (Y.st.length : Int) := by omega
   have HWR := Aside0.mk (And.intro (wr64 (n := sv.f0 + e) (by omega) (by omega)) (wr64 (n := sv.f1 + n) (by omega) (by omega)))
   clear x0_ x1_ x2_ x3_
   clear d0 d1 d2 d3
   refine start_ (n := 20) (S := fun w' => True) (ds := []) #[false, false, false, false, false, false, false, false, false, false, false, false, false, false, false, false, false, false, false, false] (by kernel_rfl) rfl rfl trivial (fun hHeld => ?_)
   refine with_tabW moved6.tab10 moved6.bits10 (fun HT_ HW_ => ?_)
   have HBW := Aside0.mk (below_drew HB.out)
   have BX := Aside0.mk (show W2.drew.heap[w.heap.size]? = some (.cells #[.slice a0.A0 a0.st.length a0.c0, .slice a0.A1 a0.ri.length a0.c1, .slice a0.A2 a0.ca.length a0.c2, .slice a0.A3 a0.su.length a0.c3] 27 (0, 0)) ∧ W2.drew.heap[gx]? = some (.cells #[.slice (some ⟨q, 0, none⟩) a0.st.length Y.c0, .slice Y.A1 Y.ri.length Y.c1, .slice Y.A2 Y.ca.length Y.c2, .slice Y.A3 Y.su.length Y.c3] 27 (0, 0)) from ⟨HBX.out, HYB.out⟩)
   have O0 := Aside0.mk (HOW0.out.below (below_drew (Below.refl _ _)))
   generalize W2.drew = wd_ at *
   refine inv_at [0, 1, 2, 3, 4, 5, 6, 7, 8, 9, 10, 11, 12, 13, 14, 15, 16, 17, 18, 19] (fun a0_ b a w' => a = putSel a0_ b [(0, 53, .pointer (some ⟨q, i.toNat * 4, none⟩)), (1, 54, .pointer (some ⟨q, i.toNat * 4, none⟩)), (2, 55, .pointer (some ⟨q, i.toNat * 4, none⟩)), (3, 56, .pointer (some ⟨q, i.toNat * 4, none⟩)), (4, 57, .pointer (some ⟨q, i.toNat * 4, none⟩)), (5, 58, .int .i64 sv.f0), (6, 59, .int .i64 e), (7, 60, .int .i64 (sv.f0 + e)), (8, 61, .pointer (some ⟨q, i.toNat * 4, none⟩)), (9, 62, .pointer (some ⟨q, i.toNat * 4, none⟩)), (10, 63, .pointer (some ⟨q, i.toNat * 4 + 1, none⟩)), (11, 64, .int .i64 sv.f1), (12, 65, .int .i64 n), (13, 66, .int .i64 (sv.f1 + n)), (14, 67, .pointer (some ⟨q, i.toNat * 4, none⟩)), (15, 68, .pointer (some ⟨q, i.toNat * 4, none⟩)), (17, 69, .pointer (some ⟨q, i.toNat * 4, none⟩)), (18, 70, .pointer (some ⟨q, i.toNat * 4 + 1, none⟩))] ∧ (Below w.heap.size w w') ∧ (w'.heap[w.heap.size]? = some (.cells #[.slice a0.A0 a0.st.length a0.c0, .slice a0.A1 a0.ri.length a0.c1, .slice a0.A2 a0.ca.length a0.c2, .slice a0.A3 a0.su.length a0.c3] 27 (0, 0)) ∧ w'.heap[gx]? = some (.cells #[.slice (some ⟨q, 0, none⟩) a0.st.length Y.c0, .slice Y.A1 Y.ri.length Y.c1, .slice Y.A2 Y.ca.length Y.c2, .slice Y.A3 Y.su.length Y.c3] 27 (0, 0))) ∧ (b 16 = false → Ow { Y with st := Y.st.set i.toNat (⟨sv.f0, sv.f1, sv.f2, sv.f3⟩ : S65) } (fun _ => True) w.heap.size w') ∧ (b 16 = true → b 19 = false → Ow { Y with st := Y.st.set i.toNat (⟨sv.f0 + e, sv.f1, sv.f2, sv.f3⟩ : S65) } (fun _ => True) w.heap.size w') ∧ (b 19 = true → Ow { Y with st := Y.st.set i.toNat (⟨sv.f0 + e, sv.f1 + n, sv.f2, sv.f3⟩ : S65) } (fun _ => True) w.heap.size w')) HT_.out HW_.out (by kernel_rfl) (by kernel_rfl) ?_ ?_ ?_
   · exact ⟨by simp only [putSel, Bool.false_eq_true, if_false], HBW.out, BX.out, fun _ => O0.out, fun h_ => absurd h_ (by decide), fun h_ => absurd h_ (by decide)⟩
   ·
    skip
    clear BX HBW O0
    refine steps_cons ?_ ?_
    ·
     rintro b a w' ⟨ha, Q_HBW, Q_BX, Q_O0, Q_O1, Q_O2⟩ hb_ hon hoff
     refine ⟨_, rfl, fun K hK => ?_⟩
     have e17 : a.tmps[17]? = some (.pointer (some ⟨q, i.toNat * 4, none⟩)) := by rw [ha]; exact (putSel_off rfl).trans rfl
     replace ha := Aside0.mk ha
     have HBW := Aside0.mk Q_HBW
     have BX := Aside0.mk Q_BX
     have O0 := Aside0.mk (Q_O0 (hoff 16 (by kernel_rfl)))
     refine value_ (w1 := w') (v := .pointer (some ⟨q, i.toNat * 4, none⟩)) (by rfl) rfl ?_ ?_
     ·
      go_simp
      (try simp only [i64_w])
      try rfl
     refine hK.out _ _ ⟨(by rw [ha.out]; exact putSel_upk 0 hb_ rfl rfl rfl), Q_HBW, Q_BX, Q_O0, fun h0_ _ => absurd ((hoff 16 (by kernel_rfl)).symm.trans h0_) (by decide), fun h0_ => absurd ((hoff 19 (by kernel_rfl)).symm.trans h0_) (by decide)⟩
    refine steps_cons ?_ ?_
    ·
     rintro b a w' ⟨ha, Q_HBW, Q_BX, Q_O0, Q_O1, Q_O2⟩ hb_ hon hoff
     refine ⟨_, rfl, fun K hK => ?_⟩
     have e17 : a.tmps[17]? = some (.pointer (some ⟨q, i.toNat * 4, none⟩)) := by rw [ha]; exact (putSel_off rfl).trans rfl
     replace ha := Aside0.mk ha
     have HBW := Aside0.mk Q_HBW
     have BX := Aside0.mk Q_BX
     refine value_ (w1 := w') (v := .pointer (some ⟨q, i.toNat * 4, none⟩)) (by rfl) rfl ?_ ?_
     ·
      go_simp
      (try simp only [i64_w])
      try rfl
     refine hK.out _ _ ⟨(by rw [ha.out]; exact putSel_upk 1 hb_ rfl rfl rfl), Q_HBW, Q_BX, Q_O0, Q_O1, fun h0_ => absurd ((hoff 19 (by kernel_rfl)).symm.trans h0_) (by decide)⟩
    refine steps_cons ?_ ?_
    ·
     rintro b a w' ⟨ha, Q_HBW, Q_BX, Q_O0, Q_O1, Q_O2⟩ hb_ hon hoff
     refine ⟨_, rfl, fun K hK => ?_⟩
     have e17 : a.tmps[17]? = some (.pointer (some ⟨q, i.toNat * 4, none⟩)) := by rw [ha]; exact (putSel_off rfl).trans rfl
     replace ha := Aside0.mk ha
     have HBW := Aside0.mk Q_HBW
     have BX := Aside0.mk Q_BX
     have O0 := Aside0.mk (Q_O0 (hoff 16 (by kernel_rfl)))
     refine value_ (w1 := w') (v := .pointer (some ⟨q, i.toNat * 4, none⟩)) (by rfl) rfl ?_ ?_
     ·
      go_simp
      (try simp only [i64_w])
      try rfl
     refine hK.out _ _ ⟨(by rw [ha.out]; exact putSel_upk 2 hb_ rfl rfl rfl), Q_HBW, Q_BX, Q_O0, fun h0_ _ => absurd ((hoff 16 (by kernel_rfl)).symm.trans h0_) (by decide), fun h0_ => absurd ((hoff 19 (by kernel_rfl)).symm.trans h0_) (by decide)⟩
    refine steps_cons ?_ ?_
    ·
     rintro b a w' ⟨ha, Q_HBW, Q_BX, Q_O0, Q_O1, Q_O2⟩ hb_ hon hoff
     refine ⟨_, rfl, fun K hK => ?_⟩
     have e55 : a.tmps[55]? = some (.pointer (some ⟨q, i.toNat * 4, none⟩)) := by rw [ha]; exact putSel_on (e := (2, 55, .pointer (some ⟨q, i.toNat * 4, none⟩))) 2 rfl rfl (hon 2 (by kernel_rfl)) rfl
     replace ha := Aside0.mk ha
     have HBW := Aside0.mk Q_HBW
     have BX := Aside0.mk Q_BX
     have O0 := Aside0.mk (Q_O0 (hoff 16 (by kernel_rfl)))
     refine value_ (w1 := w') (v := .pointer (some ⟨q, i.toNat * 4, none⟩)) (by rfl) rfl ?_ ?_
     ·
      go_simp
      (try simp only [i64_w])
      try rfl
     refine hK.out _ _ ⟨(by rw [ha.out]; exact putSel_upk 3 hb_ rfl rfl rfl), Q_HBW, Q_BX, Q_O0, fun h0_ _ => absurd ((hoff 16 (by kernel_rfl)).symm.trans h0_) (by decide), fun h0_ => absurd ((hoff 19 (by kernel_rfl)).symm.trans h0_) (by decide)⟩
    refine steps_cons ?_ ?_
    ·
     rintro b a w' ⟨ha, Q_HBW, Q_BX, Q_O0, Q_O1, Q_O2⟩ hb_ hon hoff
     refine ⟨_, rfl, fun K hK => ?_⟩
     have e56 : a.tmps[56]? = some (.pointer (some ⟨q, i.toNat * 4, none⟩)) := by rw [ha]; exact putSel_on (e := (3, 56, .pointer (some ⟨q, i.toNat * 4, none⟩))) 3 rfl rfl (hon 3 (by kernel_rfl)) rfl
     replace ha := Aside0.mk ha
     have HBW := Aside0.mk Q_HBW
     have BX := Aside0.mk Q_BX
     have O0 := Aside0.mk (Q_O0 (hoff 16 (by kernel_rfl)))
     refine value_ (w1 := w') (v := .pointer (some ⟨q, i.toNat * 4, none⟩)) (by rfl) rfl ?_ ?_
     ·
      go_simp
      (try simp only [i64_w])
      try rfl
     refine hK.out _ _ ⟨(by rw [ha.out]; exact putSel_upk 4 hb_ rfl rfl rfl), Q_HBW, Q_BX, Q_O0, fun h0_ _ => absurd ((hoff 16 (by kernel_rfl)).symm.trans h0_) (by decide), fun h0_ => absurd ((hoff 19 (by kernel_rfl)).symm.trans h0_) (by decide)⟩
    refine steps_cons ?_ ?_
    ·
     rintro b a w' ⟨ha, Q_HBW, Q_BX, Q_O0, Q_O1, Q_O2⟩ hb_ hon hoff
     refine ⟨_, rfl, fun K hK => ?_⟩
     have e57 : a.tmps[57]? = some (.pointer (some ⟨q, i.toNat * 4, none⟩)) := by rw [ha]; exact putSel_on (e := (4, 57, .pointer (some ⟨q, i.toNat * 4, none⟩))) 4 rfl rfl (hon 4 (by kernel_rfl)) rfl
     replace ha := Aside0.mk ha
     have HBW := Aside0.mk Q_HBW
     have BX := Aside0.mk Q_BX
     have O0 := Aside0.mk (Q_O0 (hoff 16 (by kernel_rfl)))
     have k0_ := (O0.out.at65 HA0.out i0 hix).2.1 0 _ rfl
     simp only [Nat.add_zero] at k0_
     refine value_ (w1 := w') (v := .int .i64 sv.f0) (by rfl) rfl ?_ ?_
     ·
      go_simp
      (try simp only [i64_w])
      try rfl
     refine hK.out _ _ ⟨(by rw [ha.out]; exact putSel_upk 5 hb_ rfl rfl rfl), Q_HBW, Q_BX, Q_O0, fun h0_ _ => absurd ((hoff 16 (by kernel_rfl)).symm.trans h0_) (by decide), fun h0_ => absurd ((hoff 19 (by kernel_rfl)).symm.trans h0_) (by decide)⟩
    refine steps_cons ?_ ?_
    ·
     rintro b a w' ⟨ha, Q_HBW, Q_BX, Q_O0, Q_O1, Q_O2⟩ hb_ hon hoff
     refine ⟨_, rfl, fun K hK => ?_⟩
     have e14 : a.tmps[14]? = some (.int .i64 e) := by rw [ha]; exact (putSel_off rfl).trans rfl
     replace ha := Aside0.mk ha
     have HBW := Aside0.mk Q_HBW
     have BX := Aside0.mk Q_BX
     have O0 := Aside0.mk (Q_O0 (hoff 16 (by kernel_rfl)))
     refine value_ (w1 := w') (v := .int .i64 e) (by rfl) rfl ?_ ?_
     ·
      go_simp
      (try simp only [i64_w])
      try rfl
     refine hK.out _ _ ⟨(by rw [ha.out]; exact putSel_upk 6 hb_ rfl rfl rfl), Q_HBW, Q_BX, Q_O0, fun h0_ _ => absurd ((hoff 16 (by kernel_rfl)).symm.trans h0_) (by decide), fun h0_ => absurd ((hoff 19 (by kernel_rfl)).symm.trans h0_) (by decide)⟩
    refine steps_cons ?_ ?_
    ·
     rintro b a w' ⟨ha, Q_HBW, Q_BX, Q_O0, Q_O1, Q_O2⟩ hb_ hon hoff
     refine ⟨_, rfl, fun K hK => ?_⟩
     have e58 : a.tmps[58]? = some (.int .i64 sv.f0) := by rw [ha]; exact putSel_on (e := (5, 58, .int .i64 sv.f0)) 5 rfl rfl (hon 5 (by kernel_rfl)) rfl
     have e59 : a.tmps[59]? = some (.int .i64 e) := by rw [ha]; exact putSel_on (e := (6, 59, .int .i64 e)) 6 rfl rfl (hon 6 (by kernel_rfl)) rfl
     replace ha := Aside0.mk ha
     have HBW := Aside0.mk Q_HBW
     have BX := Aside0.mk Q_BX
     have O0 := Aside0.mk (Q_O0 (hoff 16 (by kernel_rfl)))
     refine value_ (w1 := w') (v := .int .i64 (sv.f0 + e)) (by rfl) rfl ?_ ?_
     ·
      go_simp
      (try simp only [i64_w])
      exact HWR.out.1
     refine hK.out _ _ ⟨(by rw [ha.out]; exact putSel_upk 7 hb_ rfl rfl rfl), HBW.out, BX.out, fun _ => O0.out, fun h0_ _ => absurd ((hoff 16 (by kernel_rfl)).symm.trans h0_) (by decide), fun h0_ => absurd ((hoff 19 (by kernel_rfl)).symm.trans h0_) (by decide)⟩
    refine steps_cons ?_ ?_
    ·
     rintro b a w' ⟨ha, Q_HBW, Q_BX, Q_O0, Q_O1, Q_O2⟩ hb_ hon hoff
     refine ⟨_, rfl, fun K hK => ?_⟩
     have e17 : a.tmps[17]? = some (.pointer (some ⟨q, i.toNat * 4, none⟩)) := by rw [ha]; exact (putSel_off rfl).trans rfl
     replace ha := Aside0.mk ha
     have HBW := Aside0.mk Q_HBW
     have BX := Aside0.mk Q_BX
     have O0 := Aside0.mk (Q_O0 (hoff 16 (by kernel_rfl)))
     refine value_ (w1 := w') (v := .pointer (some ⟨q, i.toNat * 4, none⟩)) (by rfl) rfl ?_ ?_
     ·
      go_simp
      (try simp only [i64_w])
      try rfl
     refine hK.out _ _ ⟨(by rw [ha.out]; exact putSel_upk 8 hb_ rfl rfl rfl), Q_HBW, Q_BX, Q_O0, fun h0_ _ => absurd ((hoff 16 (by kernel_rfl)).symm.trans h0_) (by decide), fun h0_ => absurd ((hoff 19 (by kernel_rfl)).symm.trans h0_) (by decide)⟩
    refine steps_cons ?_ ?_
    ·
     rintro b a w' ⟨ha, Q_HBW, Q_BX, Q_O0, Q_O1, Q_O2⟩ hb_ hon hoff
     refine ⟨_, rfl, fun K hK => ?_⟩
     have e61 : a.tmps[61]? = some (.pointer (some ⟨q, i.toNat * 4, none⟩)) := by rw [ha]; exact putSel_on (e := (8, 61, .pointer (some ⟨q, i.toNat * 4, none⟩))) 8 rfl rfl (hon 8 (by kernel_rfl)) rfl
     replace ha := Aside0.mk ha
     have HBW := Aside0.mk Q_HBW
     have BX := Aside0.mk Q_BX
     have O0 := Aside0.mk (Q_O0 (hoff 16 (by kernel_rfl)))
     refine value_ (w1 := w') (v := .pointer (some ⟨q, i.toNat * 4, none⟩)) (by rfl) rfl ?_ ?_
     ·
      go_simp
      (try simp only [i64_w])
      try rfl
     refine hK.out _ _ ⟨(by rw [ha.out]; exact putSel_upk 9 hb_ rfl rfl rfl), Q_HBW, Q_BX, Q_O0, fun h0_ _ => absurd ((hoff 16 (by kernel_rfl)).symm.trans h0_) (by decide), fun h0_ => absurd ((hoff 19 (by kernel_rfl)).symm.trans h0_) (by decide)⟩
    refine steps_cons ?_ ?_
    ·
     rintro b a w' ⟨ha, Q_HBW, Q_BX, Q_O0, Q_O1, Q_O2⟩ hb_ hon hoff
     refine ⟨_, rfl, fun K hK => ?_⟩
     have e62 : a.tmps[62]? = some (.pointer (some ⟨q, i.toNat * 4, none⟩)) := by rw [ha]; exact putSel_on (e := (9, 62, .pointer (some ⟨q, i.toNat * 4, none⟩))) 9 rfl rfl (hon 9 (by kernel_rfl)) rfl
     replace ha := Aside0.mk ha
     have HBW := Aside0.mk Q_HBW
     have BX := Aside0.mk Q_BX
     have O0 := Aside0.mk (Q_O0 (hoff 16 (by kernel_rfl)))
     refine value_ (w1 := w') (v := .pointer (some ⟨q, i.toNat * 4 + 1, none⟩)) (by rfl) rfl ?_ ?_
     ·
      go_simp
      (try simp only [i64_w])
      try rfl
     refine hK.out _ _ ⟨(by rw [ha.out]; exact putSel_upk 10 hb_ rfl rfl rfl), Q_HBW, Q_BX, Q_O0, fun h0_ _ => absurd ((hoff 16 (by kernel_rfl)).symm.trans h0_) (by decide), fun h0_ => absurd ((hoff 19 (by kernel_rfl)).symm.trans h0_) (by decide)⟩
    refine steps_cons ?_ ?_
    ·
     rintro b a w' ⟨ha, Q_HBW, Q_BX, Q_O0, Q_O1, Q_O2⟩ hb_ hon hoff
     refine ⟨_, rfl, fun K hK => ?_⟩
     have e63 : a.tmps[63]? = some (.pointer (some ⟨q, i.toNat * 4 + 1, none⟩)) := by rw [ha]; exact putSel_on (e := (10, 63, .pointer (some ⟨q, i.toNat * 4 + 1, none⟩))) 10 rfl rfl (hon 10 (by kernel_rfl)) rfl
     replace ha := Aside0.mk ha
     have HBW := Aside0.mk Q_HBW
     have BX := Aside0.mk Q_BX
     have O0 := Aside0.mk (Q_O0 (hoff 16 (by kernel_rfl)))
     have k0_ := (O0.out.at65 HA0.out i0 hix).2.1 1 _ rfl
     refine value_ (w1 := w') (v := .int .i64 sv.f1) (by rfl) rfl ?_ ?_
     ·
      go_simp
      (try simp only [i64_w])
      try rfl
     refine hK.out _ _ ⟨(by rw [ha.out]; exact putSel_upk 11 hb_ rfl rfl rfl), Q_HBW, Q_BX, Q_O0, fun h0_ _ => absurd ((hoff 16 (by kernel_rfl)).symm.trans h0_) (by decide), fun h0_ => absurd ((hoff 19 (by kernel_rfl)).symm.trans h0_) (by decide)⟩
    refine steps_cons ?_ ?_
    ·
     rintro b a w' ⟨ha, Q_HBW, Q_BX, Q_O0, Q_O1, Q_O2⟩ hb_ hon hoff
     refine ⟨_, rfl, fun K hK => ?_⟩
     have e15 : a.tmps[15]? = some (.int .i64 n) := by rw [ha]; exact (putSel_off rfl).trans rfl
     replace ha := Aside0.mk ha
     have HBW := Aside0.mk Q_HBW
     have BX := Aside0.mk Q_BX
     refine value_ (w1 := w') (v := .int .i64 n) (by rfl) rfl ?_ ?_
     ·
      go_simp
      (try simp only [i64_w])
      try rfl
     refine hK.out _ _ ⟨(by rw [ha.out]; exact putSel_upk 12 hb_ rfl rfl rfl), Q_HBW, Q_BX, Q_O0, Q_O1, fun h0_ => absurd ((hoff 19 (by kernel_rfl)).symm.trans h0_) (by decide)⟩
    refine steps_cons ?_ ?_
    ·
     rintro b a w' ⟨ha, Q_HBW, Q_BX, Q_O0, Q_O1, Q_O2⟩ hb_ hon hoff
     refine ⟨_, rfl, fun K hK => ?_⟩
     have e64 : a.tmps[64]? = some (.int .i64 sv.f1) := by rw [ha]; exact putSel_on (e := (11, 64, .int .i64 sv.f1)) 11 rfl rfl (hon 11 (by kernel_rfl)) rfl
     have e65 : a.tmps[65]? = some (.int .i64 n) := by rw [ha]; exact putSel_on (e := (12, 65, .int .i64 n)) 12 rfl rfl (hon 12 (by kernel_rfl)) rfl
     replace ha := Aside0.mk ha
     have HBW := Aside0.mk Q_HBW
     have BX := Aside0.mk Q_BX
     refine value_ (w1 := w') (v := .int .i64 (sv.f1 + n)) (by rfl) rfl ?_ ?_
     ·
      go_simp
      (try simp only [i64_w])
      exact HWR.out.2
     refine hK.out _ _ ⟨(by rw [ha.out]; exact putSel_upk 13 hb_ rfl rfl rfl), HBW.out, BX.out, fun h0_ => (Q_O0 h0_), fun h0_ h1_ => (Q_O1 h0_ h1_), fun h0_ => absurd ((hoff 19 (by kernel_rfl)).symm.trans h0_) (by decide)⟩
    refine steps_cons ?_ ?_
    ·
     rintro b a w' ⟨ha, Q_HBW, Q_BX, Q_O0, Q_O1, Q_O2⟩ hb_ hon hoff
     refine ⟨_, rfl, fun K hK => ?_⟩
     have e53 : a.tmps[53]? = some (.pointer (some ⟨q, i.toNat * 4, none⟩)) := by rw [ha]; exact putSel_on (e := (0, 53, .pointer (some ⟨q, i.toNat * 4, none⟩))) 0 rfl rfl (hon 0 (by kernel_rfl)) rfl
     replace ha := Aside0.mk ha
     have HBW := Aside0.mk Q_HBW
     have BX := Aside0.mk Q_BX
     have O0 := Aside0.mk (Q_O0 (hoff 16 (by kernel_rfl)))
     refine value_ (w1 := w') (v := .pointer (some ⟨q, i.toNat * 4, none⟩)) (by rfl) rfl ?_ ?_
     ·
      go_simp
      (try simp only [i64_w])
      try rfl
     refine hK.out _ _ ⟨(by rw [ha.out]; exact putSel_upk 14 hb_ rfl rfl rfl), Q_HBW, Q_BX, Q_O0, fun h0_ _ => absurd ((hoff 16 (by kernel_rfl)).symm.trans h0_) (by decide), fun h0_ => absurd ((hoff 19 (by kernel_rfl)).symm.trans h0_) (by decide)⟩
    refine steps_cons ?_ ?_
    ·
     rintro b a w' ⟨ha, Q_HBW, Q_BX, Q_O0, Q_O1, Q_O2⟩ hb_ hon hoff
     refine ⟨_, rfl, fun K hK => ?_⟩
     have e67 : a.tmps[67]? = some (.pointer (some ⟨q, i.toNat * 4, none⟩)) := by rw [ha]; exact putSel_on (e := (14, 67, .pointer (some ⟨q, i.toNat * 4, none⟩))) 14 rfl rfl (hon 14 (by kernel_rfl)) rfl
     replace ha := Aside0.mk ha
     have HBW := Aside0.mk Q_HBW
     have BX := Aside0.mk Q_BX
     have O0 := Aside0.mk (Q_O0 (hoff 16 (by kernel_rfl)))
     refine value_ (w1 := w') (v := .pointer (some ⟨q, i.toNat * 4, none⟩)) (by rfl) rfl ?_ ?_
     ·
      go_simp
      (try simp only [i64_w])
      try rfl
     refine hK.out _ _ ⟨(by rw [ha.out]; exact putSel_upk 15 hb_ rfl rfl rfl), Q_HBW, Q_BX, Q_O0, fun h0_ _ => absurd ((hoff 16 (by kernel_rfl)).symm.trans h0_) (by decide), fun h0_ => absurd ((hoff 19 (by kernel_rfl)).symm.trans h0_) (by decide)⟩
    refine steps_cons ?_ ?_
    ·
     rintro b a w' ⟨ha, Q_HBW, Q_BX, Q_O0, Q_O1, Q_O2⟩ hb_ hon hoff
     refine ⟨_, rfl, fun K hK => ?_⟩
     have e68 : a.tmps[68]? = some (.pointer (some ⟨q, i.toNat * 4, none⟩)) := by rw [ha]; exact putSel_on (e := (15, 68, .pointer (some ⟨q, i.toNat * 4, none⟩))) 15 rfl rfl (hon 15 (by kernel_rfl)) rfl
     have e60 : a.tmps[60]? = some (.int .i64 (sv.f0 + e)) := by rw [ha]; exact putSel_on (e := (7, 60, .int .i64 (sv.f0 + e))) 7 rfl rfl (hon 7 (by kernel_rfl)) rfl
     replace ha := Aside0.mk ha
     have HBW := Aside0.mk Q_HBW
     have BX := Aside0.mk Q_BX
     have O0 := Aside0.mk (Q_O0 hb_)
     obtain ⟨⟨cells_, hcl_⟩, hcc_, _⟩ := O0.out.at65 HA0.out i0 hix
     have c0 := hcc_ 0 _ rfl
     have f0 := blk_frozen hcl_ (i.toNat * 4 + 0)
     clear hcl_ hcc_
     simp only [Nat.add_zero] at c0 f0
     refine skip_ (w1 := w'.setCell ⟨q, i.toNat * 4 + 0, none⟩ (.int .i64 (sv.f0 + e))) (by rfl) rfl (by go_simp) ?_
     refine hK.out _ _ ⟨(by rw [ha.out]; exact putSel_none (v := undef) rfl), below_set HBW.out HQB.out, ⟨blk_far (p := ⟨q, i.toNat * 4 + 0, none⟩) BX.out.1 HN.out.1 _, blk_far (p := ⟨q, i.toNat * 4 + 0, none⟩) BX.out.2 HN.out.2 _⟩, fun h0_ => absurd ((up_self b 16).symm.trans h0_) (by decide), fun _ _ => (O0.out.at65 HA0.out i0 hix).2.2 0 _ (⟨sv.f0 + e, sv.f1, sv.f2, sv.f3⟩ : S65) (by decide) rfl, fun h0_ => absurd ((hoff 19 (by kernel_rfl)).symm.trans h0_) (by decide)⟩
    refine steps_cons ?_ ?_
    ·
     rintro b a w' ⟨ha, Q_HBW, Q_BX, Q_O0, Q_O1, Q_O2⟩ hb_ hon hoff
     refine ⟨_, rfl, fun K hK => ?_⟩
     have e54 : a.tmps[54]? = some (.pointer (some ⟨q, i.toNat * 4, none⟩)) := by rw [ha]; exact putSel_on (e := (1, 54, .pointer (some ⟨q, i.toNat * 4, none⟩))) 1 rfl rfl (hon 1 (by kernel_rfl)) rfl
     replace ha := Aside0.mk ha
     have HBW := Aside0.mk Q_HBW
     have BX := Aside0.mk Q_BX
     have O1 := Aside0.mk (Q_O1 (hon 16 (by kernel_rfl)) (hoff 19 (by kernel_rfl)))
     refine value_ (w1 := w') (v := .pointer (some ⟨q, i.toNat * 4, none⟩)) (by rfl) rfl ?_ ?_
     ·
      go_simp
      (try simp only [i64_w])
      try rfl
     refine hK.out _ _ ⟨(by rw [ha.out]; exact putSel_upk 16 hb_ rfl rfl rfl), Q_HBW, Q_BX, fun h0_ => absurd ((hon 16 (by kernel_rfl)).symm.trans h0_) (by decide), Q_O1, fun h0_ => absurd ((hoff 19 (by kernel_rfl)).symm.trans h0_) (by decide)⟩
    refine steps_cons ?_ ?_
    ·
     rintro b a w' ⟨ha, Q_HBW, Q_BX, Q_O0, Q_O1, Q_O2⟩ hb_ hon hoff
     refine ⟨_, rfl, fun K hK => ?_⟩
     have e69 : a.tmps[69]? = some (.pointer (some ⟨q, i.toNat * 4, none⟩)) := by rw [ha]; exact putSel_on (e := (17, 69, .pointer (some ⟨q, i.toNat * 4, none⟩))) 16 rfl rfl (hon 17 (by kernel_rfl)) rfl
     replace ha := Aside0.mk ha
     have HBW := Aside0.mk Q_HBW
     have BX := Aside0.mk Q_BX
     have O1 := Aside0.mk (Q_O1 (hon 16 (by kernel_rfl)) (hoff 19 (by kernel_rfl)))
     refine value_ (w1 := w') (v := .pointer (some ⟨q, i.toNat * 4 + 1, none⟩)) (by rfl) rfl ?_ ?_
     ·
      go_simp
      (try simp only [i64_w])
      try rfl
     refine hK.out _ _ ⟨(by rw [ha.out]; exact putSel_upk 17 hb_ rfl rfl rfl), Q_HBW, Q_BX, fun h0_ => absurd ((hon 16 (by kernel_rfl)).symm.trans h0_) (by decide), Q_O1, fun h0_ => absurd ((hoff 19 (by kernel_rfl)).symm.trans h0_) (by decide)⟩
    refine steps_cons ?_ ?_
    ·
     rintro b a w' ⟨ha, Q_HBW, Q_BX, Q_O0, Q_O1, Q_O2⟩ hb_ hon hoff
     refine ⟨_, rfl, fun K hK => ?_⟩
     have e70 : a.tmps[70]? = some (.pointer (some ⟨q, i.toNat * 4 + 1, none⟩)) := by rw [ha]; exact putSel_on (e := (18, 70, .pointer (some ⟨q, i.toNat * 4 + 1, none⟩))) 17 rfl rfl (hon 18 (by kernel_rfl)) rfl
     have e66 : a.tmps[66]? = some (.int .i64 (sv.f1 + n)) := by rw [ha]; exact putSel_on (e := (13, 66, .int .i64 (sv.f1 + n))) 13 rfl rfl (hon 13 (by kernel_rfl)) rfl
     replace ha := Aside0.mk ha
     have HBW := Aside0.mk Q_HBW
     have BX := Aside0.mk Q_BX
     have O1 := Aside0.mk (Q_O1 (hon 16 (by kernel_rfl)) hb_)
     obtain ⟨⟨cells_, hcl_⟩, hcc_, _⟩ := O1.out.at65 HA0.out i0 hix
     have c0 := hcc_ 1 _ rfl
     have f0 := blk_frozen hcl_ (i.toNat * 4 + 1)
     clear hcl_ hcc_
     refine skip_ (w1 := w'.setCell ⟨q, i.toNat * 4 + 1, none⟩ (.int .i64 (sv.f1 + n))) (by rfl) rfl (by go_simp) ?_
     refine hK.out _ _ ⟨(by rw [ha.out]; exact putSel_none (v := undef) rfl), below_set HBW.out HQB.out, ⟨blk_far (p := ⟨q, i.toNat * 4 + 1, none⟩) BX.out.1 HN.out.1 _, blk_far (p := ⟨q, i.toNat * 4 + 1, none⟩) BX.out.2 HN.out.2 _⟩, fun h0_ => absurd ((hon 16 (by kernel_rfl)).symm.trans h0_) (by decide), fun _ h1_ => absurd ((up_self b 19).symm.trans h1_) (by decide), fun _ => (O1.out.at65 HA0.out i0 hix).2.2 1 _ (⟨sv.f0 + e, sv.f1 + n, sv.f2, sv.f3⟩ : S65) (by decide) rfl⟩
    exact steps_nil
   ·
    rintro b a w' hall ⟨ha, Q_HBW, Q_BX, Q_O0, Q_O1, Q_O2⟩
    clear BX HBW O0
    have hb0_ := hall 0 (by kernel_rfl)
    have hb1_ := hall 1 (by kernel_rfl)
    have hb2_ := hall 2 (by kernel_rfl)
    have hb3_ := hall 3 (by kernel_rfl)
    have hb4_ := hall 4 (by kernel_rfl)
    have hb5_ := hall 5 (by kernel_rfl)
    have hb6_ := hall 6 (by kernel_rfl)
    have hb7_ := hall 7 (by kernel_rfl)
    have hb8_ := hall 8 (by kernel_rfl)
    have hb9_ := hall 9 (by kernel_rfl)
    have hb10_ := hall 10 (by kernel_rfl)
    have hb11_ := hall 11 (by kernel_rfl)
    have hb12_ := hall 12 (by kernel_rfl)
    have hb13_ := hall 13 (by kernel_rfl)
    have hb14_ := hall 14 (by kernel_rfl)
    have hb15_ := hall 15 (by kernel_rfl)
    have hb16_ := hall 16 (by kernel_rfl)
    have hb17_ := hall 17 (by kernel_rfl)
    have hb18_ := hall 18 (by kernel_rfl)
    have hb19_ := hall 19 (by kernel_rfl)
    subst ha
    simp only [putSel, hb0_, hb1_, hb2_, hb3_, hb4_, hb5_, hb6_, hb7_, hb8_, hb9_, hb10_, hb11_, hb12_, hb13_, hb14_, hb15_, hb16_, hb17_, hb18_, hb19_, if_true, Act.put, List.setIfInBounds_toArray, List.set_cons_zero, List.set_cons_succ]
    have HBW := Aside0.mk Q_HBW
    clear Q_HBW
    have BX := Aside0.mk Q_BX
    clear Q_BX
    clear Q_O0
    clear Q_O1
    have O2 := Aside0.mk (Q_O2 hb19_)
    clear Q_O2
    clear hall hb0_ hb1_ hb2_ hb3_ hb4_ hb5_ hb6_ hb7_ hb8_ hb9_ hb10_ hb11_ hb12_ hb13_ hb14_ hb15_ hb16_ hb17_ hb18_ hb19_
    obtain ⟨W4, rfl⟩ : ∃ W_ : World, W_ = w' := ⟨_, rfl⟩
    have HB := HBW
    have HBX := Aside0.mk BX.out.1
    have HYB := Aside0.mk BX.out.2
    clear HBW BX HWR
    cases a4
    ·
     skip
     have hY := HY.out
     subst hY
     have hi1 : (i + 1).toNat = i.toNat + 1 := by omega
     have CQ := Aside0.mk (show Cq { X with st := mixL (m65 e n false) (i.toNat + 1) a0.st, ri := a0.ri, ca := a0.ca, su := a0.su } gx (fun _ => True) w.heap.size W4 from ⟨by show W4.heap[gx]? = some (.cells #[.slice X.A0 (mixL (m65 e n false) (i.toNat + 1) a0.st).length X.c0, .slice X.A1 a0.ri.length X.c1, .slice X.A2 a0.ca.length X.c2, .slice X.A3 a0.su.length X.c3] 27 (0, 0)); rw [mix_len, show X.A0 = some ⟨q, 0, none⟩ from HA0.out]; exact HYB.out, by rw [← HMX.out (⟨sv.f0 + e, sv.f1 + n, sv.f2, sv.f3⟩ : S65) rfl]; exact O2.out⟩)
     clear HYB
     go_wp2_with fail
     go_roundg (a0.st.length - (i + 1).toNat)
     case measure => omega
     case rel => exact ⟨i + 1, by first | rfl | go_num, by omega, by omega, by omega, HB, HBX, by rw [hi1]; exact CQ⟩
    ·
     go_upto_region 12 with (fail)
     have HO := O2
     clear O2
     refine start_ (n := 16) (S := fun w' => True) (ds := []) #[false, false, false, false, false, false, false, false, false, false, false, false, false, false, false, false] (by kernel_rfl) rfl rfl trivial (fun hHeld => ?_)
     refine with_tabW moved6.tab12 moved6.bits12 (fun HT_ HW_ => ?_)
     have HBW := Aside0.mk (below_drew HB.out)
     have BX := Aside0.mk (show W4.drew.heap[w.heap.size]? = some (.cells #[.slice a0.A0 a0.st.length a0.c0, .slice a0.A1 a0.ri.length a0.c1, .slice a0.A2 a0.ca.length a0.c2, .slice a0.A3 a0.su.length a0.c3] 27 (0, 0)) ∧ W4.drew.heap[gx]? = some (.cells #[.slice (some ⟨q, 0, none⟩) a0.st.length Y.c0, .slice Y.A1 Y.ri.length Y.c1, .slice Y.A2 Y.ca.length Y.c2, .slice Y.A3 Y.su.length Y.c3] 27 (0, 0)) from ⟨HBX.out, HYB.out⟩)
     have O0 := Aside0.mk (HO.out.below (below_drew (Below.refl _ _)))
     generalize W4.drew = wd_ at *
     refine inv_at [0, 1, 2, 3, 4, 5, 6, 7, 8, 9, 10, 11, 12, 13, 14, 15] (fun a0_ b a w' => a = putSel a0_ b [(0, 72, .pointer (some ⟨q, i.toNat * 4, none⟩)), (1, 73, .pointer (some ⟨q, i.toNat * 4, none⟩)), (2, 74, .pointer (some ⟨q, i.toNat * 4, none⟩)), (3, 75, .pointer (some ⟨q, i.toNat * 4, none⟩)), (4, 76, .pointer (some ⟨q, i.toNat * 4 + 1, none⟩)), (5, 77, .int .i64 (sv.f1 + n)), (6, 78, .pointer (some ⟨q, i.toNat * 4, none⟩)), (7, 79, .pointer (some ⟨q, i.toNat * 4, none⟩)), (8, 80, .pointer (some ⟨q, i.toNat * 4, none⟩)), (9, 81, .int .i64 (sv.f0 + e)), (10, 82, .pointer (some ⟨q, i.toNat * 4, none⟩)), (11, 83, .pointer (some ⟨q, i.toNat * 4, none⟩)), (13, 84, .pointer (some ⟨q, i.toNat * 4, none⟩)), (14, 85, .pointer (some ⟨q, i.toNat * 4 + 1, none⟩))] ∧ (Below w.heap.size w w') ∧ (w'.heap[w.heap.size]? = some (.cells #[.slice a0.A0 a0.st.length a0.c0, .slice a0.A1 a0.ri.length a0.c1, .slice a0.A2 a0.ca.length a0.c2, .slice a0.A3 a0.su.length a0.c3] 27 (0, 0)) ∧ w'.heap[gx]? = some (.cells #[.slice (some ⟨q, 0, none⟩) a0.st.length Y.c0, .slice Y.A1 Y.ri.length Y.c1, .slice Y.A2 Y.ca.length Y.c2, .slice Y.A3 Y.su.length Y.c3] 27 (0, 0))) ∧ (b 12 = false → Ow { Y with st := Y.st.set i.toNat (⟨sv.f0 + e, sv.f1 + n, sv.f2, sv.f3⟩ : S65) } (fun _ => True) w.heap.size w') ∧ (b 12 = true → b 15 = false → Ow { Y with st := Y.st.set i.toNat (⟨sv.f1 + n, sv.f1 + n, sv.f2, sv.f3⟩ : S65) } (fun _ => True) w.heap.size w') ∧ (b 15 = true → Ow { Y with st := Y.st.set i.toNat (⟨sv.f1 + n, sv.f0 + e, sv.f2, sv.f3⟩ : S65) } (fun _ => True) w.heap.size w')) HT_.out HW_.out (by kernel_rfl) (by kernel_rfl) ?_ ?_ ?_
     · exact ⟨by simp only [putSel, Bool.false_eq_true, if_false], HBW.out, BX.out, fun _ => O0.out, fun h_ => absurd h_ (by decide), fun h_ => absurd h_ (by decide)⟩
     ·
      skip
      clear BX HBW O0
      refine steps_cons ?_ ?_
      ·
       rintro b a w' ⟨ha, Q_HBW, Q_BX, Q_O0, Q_O1, Q_O2⟩ hb_ hon hoff
       refine ⟨_, rfl, fun K hK => ?_⟩
       have e17 : a.tmps[17]? = some (.pointer (some ⟨q, i.toNat * 4, none⟩)) := by rw [ha]; exact (putSel_off rfl).trans rfl
       replace ha := Aside0.mk ha
       have HBW := Aside0.mk Q_HBW
       have BX := Aside0.mk Q_BX
       have O0 := Aside0.mk (Q_O0 (hoff 12 (by kernel_rfl)))
       refine value_ (w1 := w') (v := .pointer (some ⟨q, i.toNat * 4, none⟩)) (by rfl) rfl ?_ ?_
       ·
        go_simp
        (try simp only [i64_w])
        try rfl
       refine hK.out _ _ ⟨(by rw [ha.out]; exact putSel_upk 0 hb_ rfl rfl rfl), Q_HBW, Q_BX, Q_O0, fun h0_ _ => absurd ((hoff 12 (by kernel_rfl)).symm.trans h0_) (by decide), fun h0_ => absurd ((hoff 15 (by kernel_rfl)).symm.trans h0_) (by decide)⟩
      refine steps_cons ?_ ?_
      ·
       rintro b a w' ⟨ha, Q_HBW, Q_BX, Q_O0, Q_O1, Q_O2⟩ hb_ hon hoff
       refine ⟨_, rfl, fun K hK => ?_⟩
       have e17 : a.tmps[17]? = some (.pointer (some ⟨q, i.toNat * 4, none⟩)) := by rw [ha]; exact (putSel_off rfl).trans rfl
       replace ha := Aside0.mk ha
       have HBW := Aside0.mk Q_HBW
       have BX := Aside0.mk Q_BX
       refine value_ (w1 := w') (v := .pointer (some ⟨q, i.toNat * 4, none⟩)) (by rfl) rfl ?_ ?_
       ·
        go_simp
        (try simp only [i64_w])
        try rfl
       refine hK.out _ _ ⟨(by rw [ha.out]; exact putSel_upk 1 hb_ rfl rfl rfl), Q_HBW, Q_BX, Q_O0, Q_O1, fun h0_ => absurd ((hoff 15 (by kernel_rfl)).symm.trans h0_) (by decide)⟩
      refine steps_cons ?_ ?_
      ·
       rintro b a w' ⟨ha, Q_HBW, Q_BX, Q_O0, Q_O1, Q_O2⟩ hb_ hon hoff
       refine ⟨_, rfl, fun K hK => ?_⟩
       have e17 : a.tmps[17]? = some (.pointer (some ⟨q, i.toNat * 4, none⟩)) := by rw [ha]; exact (putSel_off rfl).trans rfl
       replace ha := Aside0.mk ha
       have HBW := Aside0.mk Q_HBW
       have BX := Aside0.mk Q_BX
       have O0 := Aside0.mk (Q_O0 (hoff 12 (by kernel_rfl)))
       refine value_ (w1 := w') (v := .pointer (some ⟨q, i.toNat * 4, none⟩)) (by rfl) rfl ?_ ?_
       ·
        go_simp
        (try simp only [i64_w])
        try rfl
       refine hK.out _ _ ⟨(by rw [ha.out]; exact putSel_upk 2 hb_ rfl rfl rfl), Q_HBW, Q_BX, Q_O0, fun h0_ _ => absurd ((hoff 12 (by kernel_rfl)).symm.trans h0_) (by decide), fun h0_ => absurd ((hoff 15 (by kernel_rfl)).symm.trans h0_) (by decide)⟩
      refine steps_cons ?_ ?_
      ·
       rintro b a w' ⟨ha, Q_HBW, Q_BX, Q_O0, Q_O1, Q_O2⟩ hb_ hon hoff
       refine ⟨_, rfl, fun K hK => ?_⟩
       have e74 : a.tmps[74]? = some (.pointer (some ⟨q, i.toNat * 4, none⟩)) := by rw [ha]; exact putSel_on (e := (2, 74, .pointer (some ⟨q, i.toNat * 4, none⟩))) 2 rfl rfl (hon 2 (by kernel_rfl)) rfl
       replace ha := Aside0.mk ha
       have HBW := Aside0.mk Q_HBW
       have BX := Aside0.mk Q_BX
       have O0 := Aside0.mk (Q_O0 (hoff 12 (by kernel_rfl)))
       refine value_ (w1 := w') (v := .pointer (some ⟨q, i.toNat * 4, none⟩)) (by rfl) rfl ?_ ?_
       ·
        go_simp
        (try simp only [i64_w])
        try rfl
       refine hK.out _ _ ⟨(by rw [ha.out]; exact putSel_upk 3 hb_ rfl rfl rfl), Q_HBW, Q_BX, Q_O0, fun h0_ _ => absurd ((hoff 12 (by kernel_rfl)).symm.trans h0_) (by decide), fun h0_ => absurd ((hoff 15 (by kernel_rfl)).symm.trans h0_) (by decide)⟩
      refine steps_cons ?_ ?_
      ·
       rintro b a w' ⟨ha, Q_HBW, Q_BX, Q_O0, Q_O1, Q_O2⟩ hb_ hon hoff
       refine ⟨_, rfl, fun K hK => ?_⟩
       have e75 : a.tmps[75]? = some (.pointer (some ⟨q, i.toNat * 4, none⟩)) := by rw [ha]; exact putSel_on (e := (3, 75, .pointer (some ⟨q, i.toNat * 4, none⟩))) 3 rfl rfl (hon 3 (by kernel_rfl)) rfl
       replace ha := Aside0.mk ha
       have HBW := Aside0.mk Q_HBW
       have BX := Aside0.mk Q_BX
       have O0 := Aside0.mk (Q_O0 (hoff 12 (by kernel_rfl)))
       refine value_ (w1 := w') (v := .pointer (some ⟨q, i.toNat * 4 + 1, none⟩)) (by rfl) rfl ?_ ?_
       ·
        go_simp
        (try simp only [i64_w])
        try rfl
       refine hK.out _ _ ⟨(by rw [ha.out]; exact putSel_upk 4 hb_ rfl rfl rfl), Q_HBW, Q_BX, Q_O0, fun h0_ _ => absurd ((hoff 12 (by kernel_rfl)).symm.trans h0_) (by decide), fun h0_ => absurd ((hoff 15 (by kernel_rfl)).symm.trans h0_) (by decide)⟩
      refine steps_cons ?_ ?_
      ·
       rintro b a w' ⟨ha, Q_HBW, Q_BX, Q_O0, Q_O1, Q_O2⟩ hb_ hon hoff
       refine ⟨_, rfl, fun K hK => ?_⟩
       have e76 : a.tmps[76]? = some (.pointer (some ⟨q, i.toNat * 4 + 1, none⟩)) := by rw [ha]; exact putSel_on (e := (4, 76, .pointer (some ⟨q, i.toNat * 4 + 1, none⟩))) 4 rfl rfl (hon 4 (by kernel_rfl)) rfl
       replace ha := Aside0.mk ha
       have HBW := Aside0.mk Q_HBW
       have BX := Aside0.mk Q_BX
       have O0 := Aside0.mk (Q_O0 (hoff 12 (by kernel_rfl)))
       have k0_ := (O0.out.at65 HA0.out i0 hix).2.1 1 _ rfl
       refine value_ (w1 := w') (v := .int .i64 (sv.f1 + n)) (by rfl) rfl ?_ ?_
       ·
        go_simp
        (try simp only [i64_w])
        try rfl
       refine hK.out _ _ ⟨(by rw [ha.out]; exact putSel_upk 5 hb_ rfl rfl rfl), Q_HBW, Q_BX, Q_O0, fun h0_ _ => absurd ((hoff 12 (by kernel_rfl)).symm.trans h0_) (by decide), fun h0_ => absurd ((hoff 15 (by kernel_rfl)).symm.trans h0_) (by decide)⟩
      refine steps_cons ?_ ?_
      ·
       rintro b a w' ⟨ha, Q_HBW, Q_BX, Q_O0, Q_O1, Q_O2⟩ hb_ hon hoff
       refine ⟨_, rfl, fun K hK => ?_⟩
       have e17 : a.tmps[17]? = some (.pointer (some ⟨q, i.toNat * 4, none⟩)) := by rw [ha]; exact (putSel_off rfl).trans rfl
       replace ha := Aside0.mk ha
       have HBW := Aside0.mk Q_HBW
       have BX := Aside0.mk Q_BX
       have O0 := Aside0.mk (Q_O0 (hoff 12 (by kernel_rfl)))
       refine value_ (w1 := w') (v := .pointer (some ⟨q, i.toNat * 4, none⟩)) (by rfl) rfl ?_ ?_
       ·
        go_simp
        (try simp only [i64_w])
        try rfl
       refine hK.out _ _ ⟨(by rw [ha.out]; exact putSel_upk 6 hb_ rfl rfl rfl), Q_HBW, Q_BX, Q_O0, fun h0_ _ => absurd ((hoff 12 (by kernel_rfl)).symm.trans h0_) (by decide), fun h0_ => absurd ((hoff 15 (by kernel_rfl)).symm.trans h0_) (by decide)⟩
      refine steps_cons ?_ ?_
      ·
       rintro b a w' ⟨ha, Q_HBW, Q_BX, Q_O0, Q_O1, Q_O2⟩ hb_ hon hoff
       refine ⟨_, rfl, fun K hK => ?_⟩
       have e78 : a.tmps[78]? = some (.pointer (some ⟨q, i.toNat * 4, none⟩)) := by rw [ha]; exact putSel_on (e := (6, 78, .pointer (some ⟨q, i.toNat * 4, none⟩))) 6 rfl rfl (hon 6 (by kernel_rfl)) rfl
       replace ha := Aside0.mk ha
       have HBW := Aside0.mk Q_HBW
       have BX := Aside0.mk Q_BX
       have O0 := Aside0.mk (Q_O0 (hoff 12 (by kernel_rfl)))
       refine value_ (w1 := w') (v := .pointer (some ⟨q, i.toNat * 4, none⟩)) (by rfl) rfl ?_ ?_
       ·
        go_simp
        (try simp only [i64_w])
        try rfl
       refine hK.out _ _ ⟨(by rw [ha.out]; exact putSel_upk 7 hb_ rfl rfl rfl), Q_HBW, Q_BX, Q_O0, fun h0_ _ => absurd ((hoff 12 (by kernel_rfl)).symm.trans h0_) (by decide), fun h0_ => absurd ((hoff 15 (by kernel_rfl)).symm.trans h0_) (by decide)⟩
      refine steps_cons ?_ ?_
      ·
       rintro b a w' ⟨ha, Q_HBW, Q_BX, Q_O0, Q_O1, Q_O2⟩ hb_ hon hoff
       refine ⟨_, rfl, fun K hK => ?_⟩
       have e79 : a.tmps[79]? = some (.pointer (some ⟨q, i.toNat * 4, none⟩)) := by rw [ha]; exact putSel_on (e := (7, 79, .pointer (some ⟨q, i.toNat * 4, none⟩))) 7 rfl rfl (hon 7 (by kernel_rfl)) rfl
       replace ha := Aside0.mk ha
       have HBW := Aside0.mk Q_HBW
       have BX := Aside0.mk Q_BX
       have O0 := Aside0.mk (Q_O0 (hoff 12 (by kernel_rfl)))
       refine value_ (w1 := w') (v := .pointer (some ⟨q, i.toNat * 4, none⟩)) (by rfl) rfl ?_ ?_
       ·
        go_simp
        (try simp only [i64_w])
        try rfl
       refine hK.out _ _ ⟨(by rw [ha.out]; exact putSel_upk 8 hb_ rfl rfl rfl), Q_HBW, Q_BX, Q_O0, fun h0_ _ => absurd ((hoff 12 (by kernel_rfl)).symm.trans h0_) (by decide), fun h0_ => absurd ((hoff 15 (by kernel_rfl)).symm.trans h0_) (by decide)⟩
      refine steps_cons ?_ ?_
      ·
       rintro b a w' ⟨ha, Q_HBW, Q_BX, Q_O0, Q_O1, Q_O2⟩ hb_ hon hoff
       refine ⟨_, rfl, fun K hK => ?_⟩
       have e80 : a.tmps[80]? = some (.pointer (some ⟨q, i.toNat * 4, none⟩)) := by rw [ha]; exact putSel_on (e := (8, 80, .pointer (some ⟨q, i.toNat * 4, none⟩))) 8 rfl rfl (hon 8 (by kernel_rfl)) rfl
       replace ha := Aside0.mk ha
       have HBW := Aside0.mk Q_HBW
       have BX := Aside0.mk Q_BX
       have O0 := Aside0.mk (Q_O0 (hoff 12 (by kernel_rfl)))
       have k0_ := (O0.out.at65 HA0.out i0 hix).2.1 0 _ rfl
       simp only [Nat.add_zero] at k0_
       refine value_ (w1 := w') (v := .int .i64 (sv.f0 + e)) (by rfl) rfl ?_ ?_
       ·
        go_simp
        (try simp only [i64_w])
        try rfl
       refine hK.out _ _ ⟨(by rw [ha.out]; exact putSel_upk 9 hb_ rfl rfl rfl), Q_HBW, Q_BX, Q_O0, fun h0_ _ => absurd ((hoff 12 (by kernel_rfl)).symm.trans h0_) (by decide), fun h0_ => absurd ((hoff 15 (by kernel_rfl)).symm.trans h0_) (by decide)⟩
      refine steps_cons ?_ ?_
      ·
       rintro b a w' ⟨ha, Q_HBW, Q_BX, Q_O0, Q_O1, Q_O2⟩ hb_ hon hoff
       refine ⟨_, rfl, fun K hK => ?_⟩
       have e72 : a.tmps[72]? = some (.pointer (some ⟨q, i.toNat * 4, none⟩)) := by rw [ha]; exact putSel_on (e := (0, 72, .pointer (some ⟨q, i.toNat * 4, none⟩))) 0 rfl rfl (hon 0 (by kernel_rfl)) rfl
       replace ha := Aside0.mk ha
       have HBW := Aside0.mk Q_HBW
       have BX := Aside0.mk Q_BX
       have O0 := Aside0.mk (Q_O0 (hoff 12 (by kernel_rfl)))
       refine value_ (w1 := w') (v := .pointer (some ⟨q, i.toNat * 4, none⟩)) (by rfl) rfl ?_ ?_
       ·
        go_simp
        (try simp only [i64_w])
        try rfl
       refine hK.out _ _ ⟨(by rw [ha.out]; exact putSel_upk 10 hb_ rfl rfl rfl), Q_HBW, Q_BX, Q_O0, fun h0_ _ => absurd ((hoff 12 (by kernel_rfl)).symm.trans h0_) (by decide), fun h0_ => absurd ((hoff 15 (by kernel_rfl)).symm.trans h0_) (by decide)⟩
      refine steps_cons ?_ ?_
      ·
       rintro b a w' ⟨ha, Q_HBW, Q_BX, Q_O0, Q_O1, Q_O2⟩ hb_ hon hoff
       refine ⟨_, rfl, fun K hK => ?_⟩
       have e82 : a.tmps[82]? = some (.pointer (some ⟨q, i.toNat * 4, none⟩)) := by rw [ha]; exact putSel_on (e := (10, 82, .pointer (some ⟨q, i.toNat * 4, none⟩))) 10 rfl rfl (hon 10 (by kernel_rfl)) rfl
       replace ha := Aside0.mk ha
       have HBW := Aside0.mk Q_HBW
       have BX := Aside0.mk Q_BX
       have O0 := Aside0.mk (Q_O0 (hoff 12 (by kernel_rfl)))
       refine value_ (w1 := w') (v := .pointer (some ⟨q, i.toNat * 4, none⟩)) (by rfl) rfl ?_ ?_
       ·
        go_simp
        (try simp only [i64_w])
        try rfl
       refine hK.out _ _ ⟨(by rw [ha.out]; exact putSel_upk 11 hb_ rfl rfl rfl), Q_HBW, Q_BX, Q_O0, fun h0_ _ => absurd ((hoff 12 (by kernel_rfl)).symm.trans h0_) (by decide), fun h0_ => absurd ((hoff 15 (by kernel_rfl)).symm.trans h0_) (by decide)⟩
      refine steps_cons ?_ ?_
      ·
       rintro b a w' ⟨ha, Q_HBW, Q_BX, Q_O0, Q_O1, Q_O2⟩ hb_ hon hoff
       refine ⟨_, rfl, fun K hK => ?_⟩
       have e83 : a.tmps[83]? = some (.pointer (some ⟨q, i.toNat * 4, none⟩)) := by rw [ha]; exact putSel_on (e := (11, 83, .pointer (some ⟨q, i.toNat * 4, none⟩))) 11 rfl rfl (hon 11 (by kernel_rfl)) rfl
       have e77 : a.tmps[77]? = some (.int .i64 (sv.f1 + n)) := by rw [ha]; exact putSel_on (e := (5, 77, .int .i64 (sv.f1 + n))) 5 rfl rfl (hon 5 (by kernel_rfl)) rfl
       replace ha := Aside0.mk ha
       have HBW := Aside0.mk Q_HBW
       have BX := Aside0.mk Q_BX
       have O0 := Aside0.mk (Q_O0 hb_)
       obtain ⟨⟨cells_, hcl_⟩, hcc_, _⟩ := O0.out.at65 HA0.out i0 hix
       have c0 := hcc_ 0 _ rfl
       have f0 := blk_frozen hcl_ (i.toNat * 4 + 0)
       clear hcl_ hcc_
       simp only [Nat.add_zero] at c0 f0
       refine skip_ (w1 := w'.setCell ⟨q, i.toNat * 4 + 0, none⟩ (.int .i64 (sv.f1 + n))) (by rfl) rfl (by go_simp) ?_
       refine hK.out _ _ ⟨(by rw [ha.out]; exact putSel_none (v := undef) rfl), below_set HBW.out HQB.out, ⟨blk_far (p := ⟨q, i.toNat * 4 + 0, none⟩) BX.out.1 HN.out.1 _, blk_far (p := ⟨q, i.toNat * 4 + 0, none⟩) BX.out.2 HN.out.2 _⟩, fun h0_ => absurd ((up_self b 12).symm.trans h0_) (by decide), fun _ _ => (O0.out.at65 HA0.out i0 hix).2.2 0 _ (⟨sv.f1 + n, sv.f1 + n, sv.f2, sv.f3⟩ : S65) (by decide) rfl, fun h0_ => absurd ((hoff 15 (by kernel_rfl)).symm.trans h0_) (by decide)⟩
      refine steps_cons ?_ ?_
      ·
       rintro b a w' ⟨ha, Q_HBW, Q_BX, Q_O0, Q_O1, Q_O2⟩ hb_ hon hoff
       refine ⟨_, rfl, fun K hK => ?_⟩
       have e73 : a.tmps[73]? = some (.pointer (some ⟨q, i.toNat * 4, none⟩)) := by rw [ha]; exact putSel_on (e := (1, 73, .pointer (some ⟨q, i.toNat * 4, none⟩))) 1 rfl rfl (hon 1 (by kernel_rfl)) rfl
       replace ha := Aside0.mk ha
       have HBW := Aside0.mk Q_HBW
       have BX := Aside0.mk Q_BX
       have O1 := Aside0.mk (Q_O1 (hon 12 (by kernel_rfl)) (hoff 15 (by kernel_rfl)))
       refine value_ (w1 := w') (v := .pointer (some ⟨q, i.toNat * 4, none⟩)) (by rfl) rfl ?_ ?_
       ·
        go_simp
        (try simp only [i64_w])
        try rfl
       refine hK.out _ _ ⟨(by rw [ha.out]; exact putSel_upk 12 hb_ rfl rfl rfl), Q_HBW, Q_BX, fun h0_ => absurd ((hon 12 (by kernel_rfl)).symm.trans h0_) (by decide), Q_O1, fun h0_ => absurd ((hoff 15 (by kernel_rfl)).symm.trans h0_) (by decide)⟩
      refine steps_cons ?_ ?_
      ·
       rintro b a w' ⟨ha, Q_HBW, Q_BX, Q_O0, Q_O1, Q_O2⟩ hb_ hon hoff
       refine ⟨_, rfl, fun K hK => ?_⟩
       have e84 : a.tmps[84]? = some (.pointer (some ⟨q, i.toNat * 4, none⟩)) := by rw [ha]; exact putSel_on (e := (13, 84, .pointer (some ⟨q, i.toNat * 4, none⟩))) 12 rfl rfl (hon 13 (by kernel_rfl)) rfl
       replace ha := Aside0.mk ha
       have HBW := Aside0.mk Q_HBW
       have BX := Aside0.mk Q_BX
       have O1 := Aside0.mk (Q_O1 (hon 12 (by kernel_rfl)) (hoff 15 (by kernel_rfl)))
       refine value_ (w1 := w') (v := .pointer (some ⟨q, i.toNat * 4 + 1, none⟩)) (by rfl) rfl ?_ ?_
       ·
        go_simp
        (try simp only [i64_w])
        try rfl
       refine hK.out _ _ ⟨(by rw [ha.out]; exact putSel_upk 13 hb_ rfl rfl rfl), Q_HBW, Q_BX, fun h0_ => absurd ((hon 12 (by kernel_rfl)).symm.trans h0_) (by decide), Q_O1, fun h0_ => absurd ((hoff 15 (by kernel_rfl)).symm.trans h0_) (by decide)⟩
      refine steps_cons ?_ ?_
      ·
       rintro b a w' ⟨ha, Q_HBW, Q_BX, Q_O0, Q_O1, Q_O2⟩ hb_ hon hoff
       refine ⟨_, rfl, fun K hK => ?_⟩
       have e85 : a.tmps[85]? = some (.pointer (some ⟨q, i.toNat * 4 + 1, none⟩)) := by rw [ha]; exact putSel_on (e := (14, 85, .pointer (some ⟨q, i.toNat * 4 + 1, none⟩))) 13 rfl rfl (hon 14 (by kernel_rfl)) rfl
       have e81 : a.tmps[81]? = some (.int .i64 (sv.f0 + e)) := by rw [ha]; exact putSel_on (e := (9, 81, .int .i64 (sv.f0 + e))) 9 rfl rfl (hon 9 (by kernel_rfl)) rfl
       replace ha := Aside0.mk ha
       have HBW := Aside0.mk Q_HBW
       have BX := Aside0.mk Q_BX
       have O1 := Aside0.mk (Q_O1 (hon 12 (by kernel_rfl)) hb_)
       obtain ⟨⟨cells_, hcl_⟩, hcc_, _⟩ := O1.out.at65 HA0.out i0 hix
       have c0 := hcc_ 1 _ rfl
       have f0 := blk_frozen hcl_ (i.toNat * 4 + 1)
       clear hcl_ hcc_
       refine skip_ (w1 := w'.setCell ⟨q, i.toNat * 4 + 1, none⟩ (.int .i64 (sv.f0 + e))) (by rfl) rfl (by go_simp) ?_
       refine hK.out _ _ ⟨(by rw [ha.out]; exact putSel_none (v := undef) rfl), below_set HBW.out HQB.out, ⟨blk_far (p := ⟨q, i.toNat * 4 + 1, none⟩) BX.out.1 HN.out.1 _, blk_far (p := ⟨q, i.toNat * 4 + 1, none⟩) BX.out.2 HN.out.2 _⟩, fun h0_ => absurd ((hon 12 (by kernel_rfl)).symm.trans h0_) (by decide), fun _ h1_ => absurd ((up_self b 15).symm.trans h1_) (by decide), fun _ => (O1.out.at65 HA0.out i0 hix).2.2 1 _ (⟨sv.f1 + n, sv.f0 + e, sv.f2, sv.f3⟩ : S65) (by decide) rfl⟩
      exact steps_nil
     ·
      rintro b a w' hall ⟨ha, Q_HBW, Q_BX, Q_O0, Q_O1, Q_O2⟩
      clear BX HBW O0
      have hb0_ := hall 0 (by kernel_rfl)
      have hb1_ := hall 1 (by kernel_rfl)
      have hb2_ := hall 2 (by kernel_rfl)
      have hb3_ := hall 3 (by kernel_rfl)
      have hb4_ := hall 4 (by kernel_rfl)
      have hb5_ := hall 5 (by kernel_rfl)
      have hb6_ := hall 6 (by kernel_rfl)
      have hb7_ := hall 7 (by kernel_rfl)
      have hb8_ := hall 8 (by kernel_rfl)
      have hb9_ := hall 9 (by kernel_rfl)
      have hb10_ := hall 10 (by kernel_rfl)
      have hb11_ := hall 11 (by kernel_rfl)
      have hb12_ := hall 12 (by kernel_rfl)
      have hb13_ := hall 13 (by kernel_rfl)
      have hb14_ := hall 14 (by kernel_rfl)
      have hb15_ := hall 15 (by kernel_rfl)
      subst ha
      simp only [putSel, hb0_, hb1_, hb2_, hb3_, hb4_, hb5_, hb6_, hb7_, hb8_, hb9_, hb10_, hb11_, hb12_, hb13_, hb14_, hb15_, if_true, Act.put, List.setIfInBounds_toArray, List.set_cons_zero, List.set_cons_succ]
      have HBW := Aside0.mk Q_HBW
      clear Q_HBW
      have BX := Aside0.mk Q_BX
      clear Q_BX
      clear Q_O0
      clear Q_O1
      have O2 := Aside0.mk (Q_O2 hb15_)
      clear Q_O2
      clear hall hb0_ hb1_ hb2_ hb3_ hb4_ hb5_ hb6_ hb7_ hb8_ hb9_ hb10_ hb11_ hb12_ hb13_ hb14_ hb15_
      obtain ⟨W5, rfl⟩ : ∃ W_ : World, W_ = w' := ⟨_, rfl⟩
      have HB := HBW
      have HBX := Aside0.mk BX.out.1
      have HYB := Aside0.mk BX.out.2
      clear HBW BX
      have hY := HY.out
      subst hY
      have hi1 : (i + 1).toNat = i.toNat + 1 := by omega
      have CQ := Aside0.mk (show Cq { X with st := mixL (m65 e n true) (i.toNat + 1) a0.st, ri := a0.ri, ca := a0.ca, su := a0.su } gx (fun _ => True) w.heap.size W5 from ⟨by show W5.heap[gx]? = some (.cells #[.slice X.A0 (mixL (m65 e n true) (i.toNat + 1) a0.st).length X.c0, .slice X.A1 a0.ri.length X.c1, .slice X.A2 a0.ca.length X.c2, .slice X.A3 a0.su.length X.c3] 27 (0, 0)); rw [mix_len, show X.A0 = some ⟨q, 0, none⟩ from HA0.out]; exact HYB.out, by rw [← HMX.out (⟨sv.f1 + n, sv.f0 + e, sv.f2, sv.f3⟩ : S65) rfl]; exact O2.out⟩)
      clear HYB
      go_wp2_with fail
      go_roundg (a0.st.length - (i + 1).toNat)
      case measure => omega
      case rel => exact ⟨i + 1, by first | rfl | go_num, by omega, by omega, by omega, HB, HBX, by rw [hi1]; exact CQ⟩
  ·
   have e_ : i = (a0.st.length : Int) := by omega
   subst e_
   go_wp2_with fail
   clear x0_ x1_ x2_ x3_
   clear d0 d1 d2 d3
   rw [hY, Int.toNat_natCast, mix_end] at CQ
   clear hY HYL hyl HYB i0 i1 hgi hlt Y
   go_loopg [18] a0.ri.length (fun gg s18 wr => ∃ i : Int, s18 = .int .i64 i ∧ 0 ≤ i ∧ i ≤ (a0.ri.length : Int) ∧ (a0.ri.length : Int) - i ≤ (gg : Int) ∧ Aside0 (Below w.heap.size w wr) ∧ Aside0 (wr.heap[w.heap.size]? = some (.cells #[.slice a0.A0 a0.st.length a0.c0, .slice a0.A1 a0.ri.length a0.c1, .slice a0.A2 a0.ca.length a0.c2, .slice a0.A3 a0.su.length a0.c3] 27 (0, 0))) ∧ Aside0 (Cq { X with st := a0.st.map (m65 e n a4), ri := mixL (m55 e n a4) i.toNat a0.ri, ca := a0.ca, su := a0.su } gx (fun _ => True) w.heap.size wr))
   case atStart => exact ⟨0, rfl, by omega, by omega, by omega, HB, HBX, CQ⟩
   case round =>
    clear HB HBX CQ
    obtain ⟨i, rfl, i0, i1, hgi, HB, HBX, CQ⟩ := hrel
    obtain ⟨W2, rfl⟩ : ∃ W2 : World, W2 = wr := ⟨_, rfl⟩
    obtain ⟨Y, hY⟩ : ∃ Y : Rv, Y = { X with st := a0.st.map (m65 e n a4), ri := mixL (m55 e n a4) i.toNat a0.ri, ca := a0.ca, su := a0.su } := ⟨_, rfl⟩
    rw [← hY] at CQ
    have HYL := Aside0.mk (show Y.ri.length = a0.ri.length from by rw [hY]; exact mix_len _ _ _)
    have hyl := HYL.out
    have hbx := CQ.out.box
    rw [hyl] at hbx
    have HYB := Aside0.mk hbx
    clear hbx
    have d0 := (blk_cell HBX.out 0).trans rfl
    have d1 := (blk_cell HBX.out 1).trans rfl
    have d2 := (blk_cell HBX.out 2).trans rfl
    have d3 := (blk_cell HBX.out 3).trans rfl
    have x0_ := (blk_cell HYB.out 0).trans rfl
    have x1_ := (blk_cell HYB.out 1).trans rfl
    have x2_ := (blk_cell HYB.out 2).trans rfl
    have x3_ := (blk_cell HYB.out 3).trans rfl
    by_cases hlt : i < (a0.ri.length : Int)
    ·
     obtain ⟨q, hA1, hqb, hcl⟩ := CQ.out.own.hd1 (by omega)
     have HN := Aside0.mk (show w.heap.size ≠ q ∧ gx ≠ q from by obtain ⟨cells, hc⟩ := hcl; exact ⟨blk_ne HBX.out hc (by decide), blk_ne CQ.out.box hc (by decide)⟩)
     have HQB := Aside0.mk hqb
     have HA1 := Aside0.mk hA1
     rw [hA1] at x1_ HYB
     clear hA1 hqb hcl
     have hsv : Y.ri.getD i.toNat z55 = rd_T55 a0.ri i := by rw [hY]; exact mix_get _ _ _ _ (by omega)
     have hmx : ∀ V : S55, V = m55 e n a4 (rd_T55 a0.ri i) → Y.ri.set i.toNat V = mixL (m55 e n a4) (i.toNat + 1) a0.ri := fun V hV => by rw [hY, hV]; exact mix_set _ _ _ z55 (by omega)
     have HMX := Aside0.mk hmx
     have hbd := ri_bd HC.out (x := rd_T55 a0.ri i) (ri_mem i0 hlt)
     have HOW0 := Aside0.mk (show Ow { Y with ri := Y.ri.set i.toNat (rd_T55 a0.ri i) } (fun _ => True) w.heap.size W2 from by rw [set_rd_T55' i0 (by omega) hsv]; exact CQ.out.own)
     clear hsv hmx
     generalize hsv_ : rd_T55 a0.ri i = sw at *
     clear hsv_
     have HBD := Aside0.mk hbd
     have HY := Aside0.mk hY
     clear hbd hY
     have hix : i < (Y.ri.length : Int) := by omega
     go_upto_region 16 with (fail)
     clear x0_ x1_ x2_ x3_
     clear d0 d1 d2 d3
     refine start_ (n := 14) (S := fun w' => True) (ds := []) #[false, false, false, false, false, false, false, false, false, false, false, false, false, false] (by kernel_rfl) rfl rfl trivial (fun hHeld => ?_)
     refine with_tabW moved6.tab16 moved6.bits16 (fun HT_ HW_ => ?_)
     have HBW := Aside0.mk (below_drew HB.out)
     have BX := Aside0.mk (show W2.drew.heap[w.heap.size]? = some (.cells #[.slice a0.A0 a0.st.length a0.c0, .slice a0.A1 a0.ri.length a0.c1, .slice a0.A2 a0.ca.length a0.c2, .slice a0.A3 a0.su.length a0.c3] 27 (0, 0)) ∧ W2.drew.heap[gx]? = some (.cells #[.slice Y.A0 Y.st.length Y.c0, .slice (some ⟨q, 0, none⟩) a0.ri.length Y.c1, .slice Y.A2 Y.ca.length Y.c2, .slice Y.A3 Y.su.length Y.c3] 27 (0, 0)) from ⟨HBX.out, HYB.out⟩)
     have O0 := Aside0.mk (HOW0.out.below (below_drew (Below.refl _ _)))
     generalize W2.drew = wd_ at *
     refine inv_at [0, 1, 2, 3, 4, 5, 6, 7, 8, 9, 10, 11, 12, 13] (fun a0_ b a w' => a = putSel a0_ b [(0, 93, .pointer (some ⟨gx, 1, none⟩)), (1, 94, .slice (some ⟨q, 0, none⟩) a0.ri.length Y.c1), (2, 95, .int .i64 i), (3, 96, .pointer (some ⟨gx, 1, none⟩)), (4, 97, .slice (some ⟨q, 0, none⟩) a0.ri.length Y.c1), (5, 98, .int .i64 i), (6, 99, .pointer (some ⟨q, i.toNat * 6, none⟩)), (7, 100, .agg #[.int .i64 sw.f0, .int .i64 sw.f1, .int .i64 sw.f2, .int .i64 sw.f3, .int .i64 sw.f4, .int .i64 sw.f5]), (8, 101, .int .i64 e), (9, 102, .int .i64 n), (10, 103, .bool a4), (11, 104, .agg #[.int .i64 (m55 e n a4 sw).f0, .int .i64 (m55 e n a4 sw).f1, .int .i64 (m55 e n a4 sw).f2, .int .i64 (m55 e n a4 sw).f3, .int .i64 (m55 e n a4 sw).f4, .int .i64 (m55 e n a4 sw).f5]), (12, 105, .pointer (some ⟨q, i.toNat * 6, none⟩))] ∧ (Below w.heap.size w w') ∧ (w'.heap[w.heap.size]? = some (.cells #[.slice a0.A0 a0.st.length a0.c0, .slice a0.A1 a0.ri.length a0.c1, .slice a0.A2 a0.ca.length a0.c2, .slice a0.A3 a0.su.length a0.c3] 27 (0, 0)) ∧ w'.heap[gx]? = some (.cells #[.slice Y.A0 Y.st.length Y.c0, .slice (some ⟨q, 0, none⟩) a0.ri.length Y.c1, .slice Y.A2 Y.ca.length Y.c2, .slice Y.A3 Y.su.length Y.c3] 27 (0, 0))) ∧ (b 13 = false → Ow { Y with ri := Y.ri.set i.toNat (⟨sw.f0, sw.f1, sw.f2, sw.f3, sw.f4, sw.f5⟩ : S55) } (fun _ => True) w.heap.size w') ∧ (b 13 = true → Ow { Y with ri := Y.ri.set i.toNat (⟨(m55 e n a4 sw).f0, (m55 e n a4 sw).f1, (m55 e n a4 sw).f2, (m55 e n a4 sw).f3, (m55 e n a4 sw).f4, (m55 e n a4 sw).f5⟩ : S55) } (fun _ => True) w.heap.size w')) HT_.out HW_.out (by kernel_rfl) (by kernel_rfl) ?_ ?_ ?_
     · exact ⟨by simp only [putSel, Bool.false_eq_true, if_false], HBW.out, BX.out, fun _ => O0.out, fun h_ => absurd h_ (by decide)⟩
     ·
      skip
      clear BX HBW O0
      refine steps_cons ?_ ?_
      ·
       rintro b a w' ⟨ha, Q_HBW, Q_BX, Q_O0, Q_O1⟩ hb_ hon hoff
       refine ⟨_, rfl, fun K hK => ?_⟩
       have e13 : a.tmps[13]? = some (.pointer (some ⟨gx, 0, none⟩)) := by rw [ha]; exact (putSel_off rfl).trans rfl
       replace ha := Aside0.mk ha
       have HBW := Aside0.mk Q_HBW
       have BX := Aside0.mk Q_BX
       have O0 := Aside0.mk (Q_O0 (hoff 13 (by kernel_rfl)))
       refine value_ (w1 := w') (v := .pointer (some ⟨gx, 1, none⟩)) (by rfl) rfl ?_ ?_
       ·
        go_simp
        (try simp only [i64_w])
        try rfl
       refine hK.out _ _ ⟨(by rw [ha.out]; exact putSel_upk 0 hb_ rfl rfl rfl), Q_HBW, Q_BX, Q_O0, fun h0_ => absurd ((hoff 13 (by kernel_rfl)).symm.trans h0_) (by decide)⟩
      refine steps_cons ?_ ?_
      ·
       rintro b a w' ⟨ha, Q_HBW, Q_BX, Q_O0, Q_O1⟩ hb_ hon hoff
       refine ⟨_, rfl, fun K hK => ?_⟩
       have e93 : a.tmps[93]? = some (.pointer (some ⟨gx, 1, none⟩)) := by rw [ha]; exact putSel_on (e := (0, 93, .pointer (some ⟨gx, 1, none⟩))) 0 rfl rfl (hon 0 (by kernel_rfl)) rfl
       replace ha := Aside0.mk ha
       have HBW := Aside0.mk Q_HBW
       have BX := Aside0.mk Q_BX
       have O0 := Aside0.mk (Q_O0 (hoff 13 (by kernel_rfl)))
       have k0_ := (blk_cell BX.out.2 1).trans rfl
       refine value_ (w1 := w') (v := .slice (some ⟨q, 0, none⟩) a0.ri.length Y.c1) (by rfl) rfl ?_ ?_
       ·
        go_simp
        (try simp only [i64_w])
        try rfl
       refine hK.out _ _ ⟨(by rw [ha.out]; exact putSel_upk 1 hb_ rfl rfl rfl), Q_HBW, Q_BX, Q_O0, fun h0_ => absurd ((hoff 13 (by kernel_rfl)).symm.trans h0_) (by decide)⟩
      refine steps_cons ?_ ?_
      ·
       rintro b a w' ⟨ha, Q_HBW, Q_BX, Q_O0, Q_O1⟩ hb_ hon hoff
       refine ⟨_, rfl, fun K hK => ?_⟩
       have e18 : a.tmps[18]? = some (.int .i64 i) := by rw [ha]; exact (putSel_off rfl).trans rfl
       replace ha := Aside0.mk ha
       have HBW := Aside0.mk Q_HBW
       have BX := Aside0.mk Q_BX
       have O0 := Aside0.mk (Q_O0 (hoff 13 (by kernel_rfl)))
       refine value_ (w1 := w') (v := .int .i64 i) (by rfl) rfl ?_ ?_
       ·
        go_simp
        (try simp only [i64_w])
        try rfl
       refine hK.out _ _ ⟨(by rw [ha.out]; exact putSel_upk 2 hb_ rfl rfl rfl), Q_HBW, Q_BX, Q_O0, fun h0_ => absurd ((hoff 13 (by kernel_rfl)).symm.trans h0_) (by decide)⟩
      refine steps_cons ?_ ?_
      ·
       rintro b a w' ⟨ha, Q_HBW, Q_BX, Q_O0, Q_O1⟩ hb_ hon hoff
       refine ⟨_, rfl, fun K hK => ?_⟩
       have e13 : a.tmps[13]? = some (.pointer (some ⟨gx, 0, none⟩)) := by rw [ha]; exact (putSel_off rfl).trans rfl
       replace ha := Aside0.mk ha
       have HBW := Aside0.mk Q_HBW
       have BX := Aside0.mk Q_BX
       have O0 := Aside0.mk (Q_O0 (hoff 13 (by kernel_rfl)))
       refine value_ (w1 := w') (v := .pointer (some ⟨gx, 1, none⟩)) (by rfl) rfl ?_ ?_
       ·
        go_simp
        (try simp only [i64_w])
        try rfl
       refine hK.out _ _ ⟨(by rw [ha.out]; exact putSel_upk 3 hb_ rfl rfl rfl), Q_HBW, Q_BX, Q_O0, fun h0_ => absurd ((hoff 13 (by kernel_rfl)).symm.trans h0_) (by decide)⟩
      refine steps_cons ?_ ?_
      ·
       rintro b a w' ⟨ha, Q_HBW, Q_BX, Q_O0, Q_O1⟩ hb_ hon hoff
       refine ⟨_, rfl, fun K hK => ?_⟩
       have e96 : a.tmps[96]? = some (.pointer (some ⟨gx, 1, none⟩)) := by rw [ha]; exact putSel_on (e := (3, 96, .pointer (some ⟨gx, 1, none⟩))) 3 rfl rfl (hon 3 (by kernel_rfl)) rfl
       replace ha := Aside0.mk ha
       have HBW := Aside0.mk Q_HBW
       have BX := Aside0.mk Q_BX
       have O0 := Aside0.mk (Q_O0 (hoff 13 (by kernel_rfl)))
       have k0_ := (blk_cell BX.out.2 1).trans rfl
       refine value_ (w1 := w') (v := .slice (some ⟨q, 0, none⟩) a0.ri.length Y.c1) (by rfl) rfl ?_ ?_
       ·
        go_simp
        (try simp only [i64_w])
        try rfl
       refine hK.out _ _ ⟨(by rw [ha.out]; exact putSel_upk 4 hb_ rfl rfl rfl), Q_HBW, Q_BX, Q_O0, fun h0_ => absurd ((hoff 13 (by kernel_rfl)).symm.trans h0_) (by decide)⟩
      refine steps_cons ?_ ?_
      ·
       rintro b a w' ⟨ha, Q_HBW, Q_BX, Q_O0, Q_O1⟩ hb_ hon hoff
       refine ⟨_, rfl, fun K hK => ?_⟩
       have e18 : a.tmps[18]? = some (.int .i64 i) := by rw [ha]; exact (putSel_off rfl).trans rfl
       replace ha := Aside0.mk ha
       have HBW := Aside0.mk Q_HBW
       have BX := Aside0.mk Q_BX
       have O0 := Aside0.mk (Q_O0 (hoff 13 (by kernel_rfl)))
       refine value_ (w1 := w') (v := .int .i64 i) (by rfl) rfl ?_ ?_
       ·
        go_simp
        (try simp only [i64_w])
        try rfl
       refine hK.out _ _ ⟨(by rw [ha.out]; exact putSel_upk 5 hb_ rfl rfl rfl), Q_HBW, Q_BX, Q_O0, fun h0_ => absurd ((hoff 13 (by kernel_rfl)).symm.trans h0_) (by decide)⟩
      refine steps_cons ?_ ?_
      ·
       rintro b a w' ⟨ha, Q_HBW, Q_BX, Q_O0, Q_O1⟩ hb_ hon hoff
       refine ⟨_, rfl, fun K hK => ?_⟩
       have e97 : a.tmps[97]? = some (.slice (some ⟨q, 0, none⟩) a0.ri.length Y.c1) := by rw [ha]; exact putSel_on (e := (4, 97, .slice (some ⟨q, 0, none⟩) a0.ri.length Y.c1)) 4 rfl rfl (hon 4 (by kernel_rfl)) rfl
       have e98 : a.tmps[98]? = some (.int .i64 i) := by rw [ha]; exact putSel_on (e := (5, 98, .int .i64 i)) 5 rfl rfl (hon 5 (by kernel_rfl)) rfl
       replace ha := Aside0.mk ha
       have HBW := Aside0.mk Q_HBW
       have BX := Aside0.mk Q_BX
       have O0 := Aside0.mk (Q_O0 (hoff 13 (by kernel_rfl)))
       have k1_ : (0 : Int) ≤ i := i0
       have k2_ := hlt
       refine value_ (w1 := w') (v := .pointer (some ⟨q, i.toNat * 6, none⟩)) (by rfl) rfl ?_ ?_
       ·
        go_simp
        (try simp only [i64_w])
        try rfl
       refine hK.out _ _ ⟨(by rw [ha.out]; exact putSel_upk 6 hb_ rfl rfl rfl), Q_HBW, Q_BX, Q_O0, fun h0_ => absurd ((hoff 13 (by kernel_rfl)).symm.trans h0_) (by decide)⟩
      refine steps_cons ?_ ?_
      ·
       rintro b a w' ⟨ha, Q_HBW, Q_BX, Q_O0, Q_O1⟩ hb_ hon hoff
       refine ⟨_, rfl, fun K hK => ?_⟩
       have e99 : a.tmps[99]? = some (.pointer (some ⟨q, i.toNat * 6, none⟩)) := by rw [ha]; exact putSel_on (e := (6, 99, .pointer (some ⟨q, i.toNat * 6, none⟩))) 6 rfl rfl (hon 6 (by kernel_rfl)) rfl
       replace ha := Aside0.mk ha
       have HBW := Aside0.mk Q_HBW
       have BX := Aside0.mk Q_BX
       have O0 := Aside0.mk (Q_O0 (hoff 13 (by kernel_rfl)))
       have hc_ := (O0.out.at55 HA1.out i0 hix).2
       have k0_ := hc_ 0 _ rfl
       have k1_ := hc_ 1 _ rfl
       have k2_ := hc_ 2 _ rfl
       have k3_ := hc_ 3 _ rfl
       have k4_ := hc_ 4 _ rfl
       have k5_ := hc_ 5 _ rfl
       clear hc_
       simp only [Nat.add_zero] at k0_
       refine value_ (w1 := w') (v := .agg #[.int .i64 sw.f0, .int .i64 sw.f1, .int .i64 sw.f2, .int .i64 sw.f3, .int .i64 sw.f4, .int .i64 sw.f5]) (by rfl) rfl ?_ ?_
       ·
        go_simp
        (try simp only [i64_w])
        try rfl
       refine hK.out _ _ ⟨(by rw [ha.out]; exact putSel_upk 7 hb_ rfl rfl rfl), Q_HBW, Q_BX, Q_O0, fun h0_ => absurd ((hoff 13 (by kernel_rfl)).symm.trans h0_) (by decide)⟩
      refine steps_cons ?_ ?_
      ·
       rintro b a w' ⟨ha, Q_HBW, Q_BX, Q_O0, Q_O1⟩ hb_ hon hoff
       refine ⟨_, rfl, fun K hK => ?_⟩
       have e14 : a.tmps[14]? = some (.int .i64 e) := by rw [ha]; exact (putSel_off rfl).trans rfl
       replace ha := Aside0.mk ha
       have HBW := Aside0.mk Q_HBW
       have BX := Aside0.mk Q_BX
       have O0 := Aside0.mk (Q_O0 (hoff 13 (by kernel_rfl)))
       refine value_ (w1 := w') (v := .int .i64 e) (by rfl) rfl ?_ ?_
       ·
        go_simp
        (try simp only [i64_w])
        try rfl
       refine hK.out _ _ ⟨(by rw [ha.out]; exact putSel_upk 8 hb_ rfl rfl rfl), Q_HBW, Q_BX, Q_O0, fun h0_ => absurd ((hoff 13 (by kernel_rfl)).symm.trans h0_) (by decide)⟩
      refine steps_cons ?_ ?_
      ·
       rintro b a w' ⟨ha, Q_HBW, Q_BX, Q_O0, Q_O1⟩ hb_ hon hoff
       refine ⟨_, rfl, fun K hK => ?_⟩
       have e15 : a.tmps[15]? = some (.int .i64 n) := by rw [ha]; exact (putSel_off rfl).trans rfl
       replace ha := Aside0.mk ha
       have HBW := Aside0.mk Q_HBW
       have BX := Aside0.mk Q_BX
       have O0 := Aside0.mk (Q_O0 (hoff 13 (by kernel_rfl)))
       refine value_ (w1 := w') (v := .int .i64 n) (by rfl) rfl ?_ ?_
       ·
        go_simp
        (try simp only [i64_w])
        try rfl
       refine hK.out _ _ ⟨(by rw [ha.out]; exact putSel_upk 9 hb_ rfl rfl rfl), Q_HBW, Q_BX, Q_O0, fun h0_ => absurd ((hoff 13 (by kernel_rfl)).symm.trans h0_) (by decide)⟩
      refine steps_cons ?_ ?_
      ·
       rintro b a w' ⟨ha, Q_HBW, Q_BX, Q_O0, Q_O1⟩ hb_ hon hoff
       refine ⟨_, rfl, fun K hK => ?_⟩
       have e4 : a.tmps[4]? = some (.bool a4) := by rw [ha]; exact (putSel_off rfl).trans rfl
       replace ha := Aside0.mk ha
       have HBW := Aside0.mk Q_HBW
       have BX := Aside0.mk Q_BX
       have O0 := Aside0.mk (Q_O0 (hoff 13 (by kernel_rfl)))
       refine value_ (w1 := w') (v := .bool a4) (by rfl) rfl ?_ ?_
       ·
        go_simp
        (try simp only [i64_w])
        try rfl
       refine hK.out _ _ ⟨(by rw [ha.out]; exact putSel_upk 10 hb_ rfl rfl rfl), Q_HBW, Q_BX, Q_O0, fun h0_ => absurd ((hoff 13 (by kernel_rfl)).symm.trans h0_) (by decide)⟩
      refine steps_cons ?_ ?_
      ·
       rintro b a w' ⟨ha, Q_HBW, Q_BX, Q_O0, Q_O1⟩ hb_ hon hoff
       refine ⟨_, rfl, fun K hK => ?_⟩
       have e100 : a.tmps[100]? = some (.agg #[.int .i64 sw.f0, .int .i64 sw.f1, .int .i64 sw.f2, .int .i64 sw.f3, .int .i64 sw.f4, .int .i64 sw.f5]) := by rw [ha]; exact putSel_on (e := (7, 100, .agg #[.int .i64 sw.f0, .int .i64 sw.f1, .int .i64 sw.f2, .int .i64 sw.f3, .int .i64 sw.f4, .int .i64 sw.f5])) 7 rfl rfl (hon 7 (by kernel_rfl)) rfl
       have e101 : a.tmps[101]? = some (.int .i64 e) := by rw [ha]; exact putSel_on (e := (8, 101, .int .i64 e)) 8 rfl rfl (hon 8 (by kernel_rfl)) rfl
       have e102 : a.tmps[102]? = some (.int .i64 n) := by rw [ha]; exact putSel_on (e := (9, 102, .int .i64 n)) 9 rfl rfl (hon 9 (by kernel_rfl)) rfl
       have e103 : a.tmps[103]? = some (.bool a4) := by rw [ha]; exact putSel_on (e := (10, 103, .bool a4)) 10 rfl rfl (hon 10 (by kernel_rfl)) rfl
       replace ha := Aside0.mk ha
       have HBW := Aside0.mk Q_HBW
       have BX := Aside0.mk Q_BX
       have O0 := Aside0.mk (Q_O0 (hoff 13 (by kernel_rfl)))
       refine call_ 35 #[.agg #[.int .i64 sw.f0, .int .i64 sw.f1, .int .i64 sw.f2, .int .i64 sw.f3, .int .i64 sw.f4, .int .i64 sw.f5], .int .i64 e, .int .i64 n, .bool a4] (by rfl) rfl (by go_simp) ?_
       refine (moved_c sw e n a4 w' HBD.out hee hnn).mono ?_
       rintro e_ w2 ⟨rfl, hbb⟩
       refine ⟨_, rfl, ?_⟩
       refine hK.out _ _ ⟨(by rw [ha.out]; exact putSel_upk 11 hb_ rfl rfl rfl), bt HBW.out hbb, ⟨blk_below BX.out.1 hbb, blk_below BX.out.2 hbb⟩, fun _ => O0.out.below hbb, fun h0_ => absurd ((hoff 13 (by kernel_rfl)).symm.trans h0_) (by decide)⟩
      refine steps_cons ?_ ?_
      ·
       rintro b a w' ⟨ha, Q_HBW, Q_BX, Q_O0, Q_O1⟩ hb_ hon hoff
       refine ⟨_, rfl, fun K hK => ?_⟩
       have e94 : a.tmps[94]? = some (.slice (some ⟨q, 0, none⟩) a0.ri.length Y.c1) := by rw [ha]; exact putSel_on (e := (1, 94, .slice (some ⟨q, 0, none⟩) a0.ri.length Y.c1)) 1 rfl rfl (hon 1 (by kernel_rfl)) rfl
       have e95 : a.tmps[95]? = some (.int .i64 i) := by rw [ha]; exact putSel_on (e := (2, 95, .int .i64 i)) 2 rfl rfl (hon 2 (by kernel_rfl)) rfl
       replace ha := Aside0.mk ha
       have HBW := Aside0.mk Q_HBW
       have BX := Aside0.mk Q_BX
       have O0 := Aside0.mk (Q_O0 (hoff 13 (by kernel_rfl)))
       have k1_ : (0 : Int) ≤ i := i0
       have k2_ := hlt
       refine value_ (w1 := w') (v := .pointer (some ⟨q, i.toNat * 6, none⟩)) (by rfl) rfl ?_ ?_
       ·
        go_simp
        (try simp only [i64_w])
        try rfl
       refine hK.out _ _ ⟨(by rw [ha.out]; exact putSel_upk 12 hb_ rfl rfl rfl), Q_HBW, Q_BX, Q_O0, fun h0_ => absurd ((hoff 13 (by kernel_rfl)).symm.trans h0_) (by decide)⟩
      refine steps_cons ?_ ?_
      ·
       rintro b a w' ⟨ha, Q_HBW, Q_BX, Q_O0, Q_O1⟩ hb_ hon hoff
       refine ⟨_, rfl, fun K hK => ?_⟩
       have e105 : a.tmps[105]? = some (.pointer (some ⟨q, i.toNat * 6, none⟩)) := by rw [ha]; exact putSel_on (e := (12, 105, .pointer (some ⟨q, i.toNat * 6, none⟩))) 12 rfl rfl (hon 12 (by kernel_rfl)) rfl
       have e104 : a.tmps[104]? = some (.agg #[.int .i64 (m55 e n a4 sw).f0, .int .i64 (m55 e n a4 sw).f1, .int .i64 (m55 e n a4 sw).f2, .int .i64 (m55 e n a4 sw).f3, .int .i64 (m55 e n a4 sw).f4, .int .i64 (m55 e n a4 sw).f5]) := by rw [ha]; exact putSel_on (e := (11, 104, .agg #[.int .i64 (m55 e n a4 sw).f0, .int .i64 (m55 e n a4 sw).f1, .int .i64 (m55 e n a4 sw).f2, .int .i64 (m55 e n a4 sw).f3, .int .i64 (m55 e n a4 sw).f4, .int .i64 (m55 e n a4 sw).f5])) 11 rfl rfl (hon 11 (by kernel_rfl)) rfl
       replace ha := Aside0.mk ha
       have HBW := Aside0.mk Q_HBW
       have BX := Aside0.mk Q_BX
       have O0 := Aside0.mk (Q_O0 hb_)
       have h0_ := O0.out
       obtain ⟨⟨cells0_, hl0_⟩, hc0_⟩ := h0_.at55 HA1.out i0 hix
       have c0 := hc0_ 0 _ rfl
       have f0 := blk_frozen hl0_ (i.toNat * 6 + 0)
       have h1_ := h0_.put55 HA1.out i0 hix 0 (.int .i64 (m55 e n a4 sw).f0) (⟨(m55 e n a4 sw).f0, sw.f1, sw.f2, sw.f3, sw.f4, sw.f5⟩ : S55) (by decide) rfl
       obtain ⟨⟨cells1_, hl1_⟩, hc1_⟩ := h1_.at55 HA1.out i0 hix
       have c1 := hc1_ 1 _ rfl
       have f1 := blk_frozen hl1_ (i.toNat * 6 + 1)
       have h2_ := h1_.put55 HA1.out i0 hix 1 (.int .i64 (m55 e n a4 sw).f1) (⟨(m55 e n a4 sw).f0, (m55 e n a4 sw).f1, sw.f2, sw.f3, sw.f4, sw.f5⟩ : S55) (by decide) rfl
       obtain ⟨⟨cells2_, hl2_⟩, hc2_⟩ := h2_.at55 HA1.out i0 hix
       have c2 := hc2_ 2 _ rfl
       have f2 := blk_frozen hl2_ (i.toNat * 6 + 2)
       have h3_ := h2_.put55 HA1.out i0 hix 2 (.int .i64 (m55 e n a4 sw).f2) (⟨(m55 e n a4 sw).f0, (m55 e n a4 sw).f1, (m55 e n a4 sw).f2, sw.f3, sw.f4, sw.f5⟩ : S55) (by decide) rfl
       obtain ⟨⟨cells3_, hl3_⟩, hc3_⟩ := h3_.at55 HA1.out i0 hix
       have c3 := hc3_ 3 _ rfl
       have f3 := blk_frozen hl3_ (i.toNat * 6 + 3)
       have h4_ := h3_.put55 HA1.out i0 hix 3 (.int .i64 (m55 e n a4 sw).f3) (⟨(m55 e n a4 sw).f0, (m55 e n a4 sw).f1, (m55 e n a4 sw).f2, (m55 e n a4 sw).f3, sw.f4, sw.f5⟩ : S55) (by decide) rfl
       obtain ⟨⟨cells4_, hl4_⟩, hc4_⟩ := h4_.at55 HA1.out i0 hix
       have c4 := hc4_ 4 _ rfl
       have f4 := blk_frozen hl4_ (i.toNat * 6 + 4)
       have h5_ := h4_.put55 HA1.out i0 hix 4 (.int .i64 (m55 e n a4 sw).f4) (⟨(m55 e n a4 sw).f0, (m55 e n a4 sw).f1, (m55 e n a4 sw).f2, (m55 e n a4 sw).f3, (m55 e n a4 sw).f4, sw.f5⟩ : S55) (by decide) rfl
       obtain ⟨⟨cells5_, hl5_⟩, hc5_⟩ := h5_.at55 HA1.out i0 hix
       have c5 := hc5_ 5 _ rfl
       have f5 := blk_frozen hl5_ (i.toNat * 6 + 5)
       have h6_ := h5_.put55 HA1.out i0 hix 5 (.int .i64 (m55 e n a4 sw).f5) (⟨(m55 e n a4 sw).f0, (m55 e n a4 sw).f1, (m55 e n a4 sw).f2, (m55 e n a4 sw).f3, (m55 e n a4 sw).f4, (m55 e n a4 sw).f5⟩ : S55) (by decide) rfl
       simp only [Nat.add_zero] at c0 f0 c1 f1 c2 f2 c3 f3 c4 f4 c5 f5
       have hO1 := Aside0.mk h6_
       clear hl0_ hc0_ hl1_ hc1_ hl2_ hc2_ hl3_ hc3_ hl4_ hc4_ hl5_ hc5_ h0_ h1_ h2_ h3_ h4_ h5_ h6_
       refine skip_ (w1 := ((((((w'.setCell ⟨q, i.toNat * 6 + 0, none⟩ (.int .i64 (m55 e n a4 sw).f0)).setCell ⟨q, i.toNat * 6 + 1, none⟩ (.int .i64 (m55 e n a4 sw).f1)).setCell ⟨q, i.toNat * 6 + 2, none⟩ (.int .i64 (m55 e n a4 sw).f2)).setCell ⟨q, i.toNat * 6 + 3, none⟩ (.int .i64 (m55 e n a4 sw).f3)).setCell ⟨q, i.toNat * 6 + 4, none⟩ (.int .i64 (m55 e n a4 sw).f4)).setCell ⟨q, i.toNat * 6 + 5, none⟩ (.int .i64 (m55 e n a4 sw).f5))) (by rfl) rfl (by go_simp) ?_
       refine hK.out _ _ ⟨(by rw [ha.out]; exact putSel_none (v := undef) rfl), below_set (below_set (below_set (below_set (below_set (below_set (HBW.out) HQB.out) HQB.out) HQB.out) HQB.out) HQB.out) HQB.out, ⟨blk_far (p := ⟨q, i.toNat * 6 + 5, none⟩) (blk_far (p := ⟨q, i.toNat * 6 + 4, none⟩) (blk_far (p := ⟨q, i.toNat * 6 + 3, none⟩) (blk_far (p := ⟨q, i.toNat * 6 + 2, none⟩) (blk_far (p := ⟨q, i.toNat * 6 + 1, none⟩) (blk_far (p := ⟨q, i.toNat * 6 + 0, none⟩) (BX.out.1) HN.out.1 _) HN.out.1 _) HN.out.1 _) HN.out.1 _) HN.out.1 _) HN.out.1 _, blk_far (p := ⟨q, i.toNat * 6 + 5, none⟩) (blk_far (p := ⟨q, i.toNat * 6 + 4, none⟩) (blk_far (p := ⟨q, i.toNat * 6 + 3, none⟩) (blk_far (p := ⟨q, i.toNat * 6 + 2, none⟩) (blk_far (p := ⟨q, i.toNat * 6 + 1, none⟩) (blk_far (p := ⟨q, i.toNat * 6 + 0, none⟩) (BX.out.2) HN.out.2 _) HN.out.2 _) HN.out.2 _) HN.out.2 _) HN.out.2 _) HN.out.2 _⟩, fun h0_ => absurd ((up_self b 13).symm.trans h0_) (by decide), fun _ => hO1.out⟩
      exact steps_nil
     ·
      rintro b a w' hall ⟨ha, Q_HBW, Q_BX, Q_O0, Q_O1⟩
      clear BX HBW O0
      have hb0_ := hall 0 (by kernel_rfl)
      have hb1_ := hall 1 (by kernel_rfl)
      have hb2_ := hall 2 (by kernel_rfl)
      have hb3_ := hall 3 (by kernel_rfl)
      have hb4_ := hall 4 (by kernel_rfl)
      have hb5_ := hall 5 (by kernel_rfl)
      have hb6_ := hall 6 (by kernel_rfl)
      have hb7_ := hall 7 (by kernel_rfl)
      have hb8_ := hall 8 (by kernel_rfl)
      have hb9_ := hall 9 (by kernel_rfl)
      have hb10_ := hall 10 (by kernel_rfl)
      have hb11_ := hall 11 (by kernel_rfl)
      have hb12_ := hall 12 (by kernel_rfl)
      have hb13_ := hall 13 (by kernel_rfl)
      subst ha
      simp only [putSel, hb0_, hb1_, hb2_, hb3_, hb4_, hb5_, hb6_, hb7_, hb8_, hb9_, hb10_, hb11_, hb12_, hb13_, if_true, Act.put, List.setIfInBounds_toArray, List.set_cons_zero, List.set_cons_succ]
      have HBW := Aside0.mk Q_HBW
      clear Q_HBW
      have BX := Aside0.mk Q_BX
      clear Q_BX
      clear Q_O0
      have O1 := Aside0.mk (Q_O1 hb13_)
      clear Q_O1
      clear hall hb0_ hb1_ hb2_ hb3_ hb4_ hb5_ hb6_ hb7_ hb8_ hb9_ hb10_ hb11_ hb12_ hb13_
      obtain ⟨W4, rfl⟩ : ∃ W_ : World, W_ = w' := ⟨_, rfl⟩
      have HB := HBW
      have HBX := Aside0.mk BX.out.1
      have HYB := Aside0.mk BX.out.2
      clear HBW BX
      have hY := HY.out
      subst hY
      have hi1 : (i + 1).toNat = i.toNat + 1 := by omega
      have CQ := Aside0.mk (show Cq { X with st := a0.st.map (m65 e n a4), ri := mixL (m55 e n a4) (i.toNat + 1) a0.ri, ca := a0.ca, su := a0.su } gx (fun _ => True) w.heap.size W4 from ⟨by show W4.heap[gx]? = some (.cells #[.slice X.A0 (a0.st.map (m65 e n a4)).length X.c0, .slice X.A1 (mixL (m55 e n a4) (i.toNat + 1) a0.ri).length X.c1, .slice X.A2 a0.ca.length X.c2, .slice X.A3 a0.su.length X.c3] 27 (0, 0)); rw [mix_len, show X.A1 = some ⟨q, 0, none⟩ from HA1.out]; exact HYB.out, by rw [← HMX.out (⟨(m55 e n a4 sw).f0, (m55 e n a4 sw).f1, (m55 e n a4 sw).f2, (m55 e n a4 sw).f3, (m55 e n a4 sw).f4, (m55 e n a4 sw).f5⟩ : S55) rfl]; exact O1.out⟩)
      clear HYB
      go_wp2_with fail
      go_roundg (a0.ri.length - (i + 1).toNat)
      case measure => omega
      case rel => exact ⟨i + 1, by first | rfl | go_num, by omega, by omega, by omega, HB, HBX, by rw [hi1]; exact CQ⟩
    ·
     have e_ : i = (a0.ri.length : Int) := by omega
     subst e_
     go_wp2_with fail
     clear x0_ x1_ x2_ x3_
     clear d0 d1 d2 d3
     rw [hY, Int.toNat_natCast, mix_end] at CQ
     clear hY HYL hyl HYB i0 i1 hgi hlt Y
     go_loopg [19] a0.ca.length (fun gg s19 wr => ∃ i : Int, s19 = .int .i64 i ∧ 0 ≤ i ∧ i ≤ (a0.ca.length : Int) ∧ (a0.ca.length : Int) - i ≤ (gg : Int) ∧ Aside0 (Below w.heap.size w wr) ∧ Aside0 (wr.heap[w.heap.size]? = some (.cells #[.slice a0.A0 a0.st.length a0.c0, .slice a0.A1 a0.ri.length a0.c1, .slice a0.A2 a0.ca.length a0.c2, .slice a0.A3 a0.su.length a0.c3] 27 (0, 0))) ∧ Aside0 (Cq { X with st := a0.st.map (m65 e n a4), ri := a0.ri.map (m55 e n a4), ca := mixL (fun c => c.map (m61 e n a4)) i.toNat a0.ca, su := a0.su } gx (fun _ => True) w.heap.size wr))
     case atStart => exact ⟨0, rfl, by omega, by omega, by omega, HB, HBX, CQ⟩
     case round =>
      clear HB HBX CQ
      obtain ⟨i, rfl, i0, i1, hgi, HB, HBX, CQ⟩ := hrel
      obtain ⟨W2, rfl⟩ : ∃ W2 : World, W2 = wr := ⟨_, rfl⟩
      obtain ⟨Y, hY⟩ : ∃ Y : Rv, Y = { X with st := a0.st.map (m65 e n a4), ri := a0.ri.map (m55 e n a4), ca := mixL (fun c => c.map (m61 e n a4)) i.toNat a0.ca, su := a0.su } := ⟨_, rfl⟩
      rw [← hY] at CQ
      have HYL := Aside0.mk (show Y.ca.length = a0.ca.length from by rw [hY]; exact mix_len _ _ _)
      have hyl := HYL.out
      have hbx := CQ.out.box
      rw [hyl] at hbx
      have HYB := Aside0.mk hbx
      clear hbx
      have d0 := (blk_cell HBX.out 0).trans rfl
      have d1 := (blk_cell HBX.out 1).trans rfl
      have d2 := (blk_cell HBX.out 2).trans rfl
      have d3 := (blk_cell HBX.out 3).trans rfl
      have x0_ := (blk_cell HYB.out 0).trans rfl
      have x1_ := (blk_cell HYB.out 1).trans rfl
      have x2_ := (blk_cell HYB.out 2).trans rfl
      have x3_ := (blk_cell HYB.out 3).trans rfl
      by_cases hlt : i < (a0.ca.length : Int)
      ·
       have hix : i < (Y.ca.length : Int) := by omega
       obtain ⟨q, v, okw, hA2, hqb, _, hql, _, _, hR, hLt⟩ := CQ.out.own.lend i0 hix
       have hcl := (hLt.typed i0 hix).1
       have HN := Aside0.mk (show w.heap.size ≠ q ∧ gx ≠ q from by obtain ⟨cells, hc⟩ := hcl; exact ⟨blk_ne HBX.out hc (by decide), blk_ne CQ.out.box hc (by decide)⟩)
       have HQB := Aside0.mk hqb
       have HA2 := Aside0.mk hA2
       rw [hA2] at x2_ HYB
       clear hA2 hqb hcl hql
       have hxs : rd_L3 Y.ca i = rd_L3 a0.ca i := by rw [hY]; exact mix_get _ _ _ _ (by omega)
       rw [hxs] at hR
       have hmx : ∀ V : List S61, V = (rd_L3 a0.ca i).map (m61 e n a4) → Y.ca.set i.toNat V = mixL (fun c => c.map (m61 e n a4)) (i.toNat + 1) a0.ca := fun V hV => by rw [hY, hV]; exact mix_set (fun c => c.map (m61 e n a4)) i.toNat a0.ca [] (by omega)
       have HMX := Aside0.mk hmx
       have HCB := Aside0.mk (fun y hy => cl_bd (y := y) HC.out (rd_L3_mem i0 hlt) hy)
       have hxl : (rd_L3 a0.ca i).length ≤ 64 := HCC.out _ (rd_L3_mem i0 hlt)
       clear hxs hmx
       generalize rd_L3 a0.ca i = xs at *
       obtain ⟨vA, vc, rfl⟩ := Kd.R_slice hR
       generalize hok : (fun k => True ∨ W2.heap.size ≤ k) = okT at *
       clear hok
       have HLT := Aside0.mk hLt
       have HRR := Aside0.mk hR
       have HY := Aside0.mk hY
       clear hLt hR hY CQ
       go_wp2_with fail
       clear x0_ x1_ x2_ x3_
       clear d0 d1 d2 d3
       go_loopg [20] xs.length (fun gg s20 wr => ∃ j : Int, s20 = .int .i64 j ∧ 0 ≤ j ∧ j ≤ (xs.length : Int) ∧ (xs.length : Int) - j ≤ (gg : Int) ∧ Aside0 (Below w.heap.size w wr) ∧ Aside0 (wr.heap[w.heap.size]? = some (.cells #[.slice a0.A0 a0.st.length a0.c0, .slice a0.A1 a0.ri.length a0.c1, .slice a0.A2 a0.ca.length a0.c2, .slice a0.A3 a0.su.length a0.c3] 27 (0, 0))) ∧ Aside0 (wr.heap[gx]? = some (.cells #[.slice Y.A0 Y.st.length Y.c0, .slice Y.A1 Y.ri.length Y.c1, .slice (some ⟨q, 0, none⟩) a0.ca.length Y.c2, .slice Y.A3 Y.su.length Y.c3] 27 (0, 0))) ∧ Aside0 (Lent Y i q okT okw w.heap.size (.slice vA xs.length vc) wr) ∧ Aside0 (Kd.R k61 61 wr w.heap.size okw (.slice vA xs.length vc) (mixL (m61 e n a4) j.toNat xs)))
       case atStart => exact ⟨0, rfl, by omega, by omega, by omega, HB, HBX, HYB, HLT, HRR⟩
       case round =>
        clear HB HBX HYB HLT HRR
        obtain ⟨j, rfl, j0, j1, hgj, HB, HBX, HYB, HLT, HRR⟩ := hrel
        obtain ⟨W3, rfl⟩ : ∃ W3 : World, W3 = wr := ⟨_, rfl⟩
        have d0 := (blk_cell HBX.out 0).trans rfl
        have d1 := (blk_cell HBX.out 1).trans rfl
        have d2 := (blk_cell HBX.out 2).trans rfl
        have d3 := (blk_cell HBX.out 3).trans rfl
        have x0_ := (blk_cell HYB.out 0).trans rfl
        have x1_ := (blk_cell HYB.out 1).trans rfl
        have x2_ := (blk_cell HYB.out 2).trans rfl
        have x3_ := (blk_cell HYB.out 3).trans rfl
        have kc_ := (HLT.out.typed i0 hix).2
        by_cases hjt : j < (xs.length : Int)
        ·
         obtain ⟨p, rfl⟩ := R61_hd HRR.out (by rw [mix_len]; omega)
         obtain ⟨ys, hys⟩ : ∃ ys, ys = mixL (m61 e n a4) j.toNat xs := ⟨_, rfl⟩
         have HYS := Aside0.mk (show ys.length = xs.length from by rw [hys]; exact mix_len _ _ _)
         have hyl2 := HYS.out
         have hjy : j < (ys.length : Int) := by omega
         have hsv : ys.getD j.toNat z61 = rd_T61 xs j := by rw [hys]; exact mix_get _ _ _ _ (by omega)
         have HMY := Aside0.mk (show ∀ V : S61, V = m61 e n a4 (rd_T61 xs j) → ys.set j.toNat V = mixL (m61 e n a4) (j.toNat + 1) xs from fun V hV => by rw [hys, hV]; exact mix_set _ _ _ z61 (by omega))
         have HR0 := Aside0.mk (show Kd.R k61 61 W3 w.heap.size okw (.slice (some ⟨p, 0, none⟩) ys.length vc) (ys.set j.toNat (rd_T61 xs j)) from by rw [set_rd_T61 j0 hjy hsv, HYS.out, hys]; exact HRR.out)
         have HBD := Aside0.mk (HCB.out (rd_T61 xs j) (cl_mem j0 hjt))
         clear hsv hys HRR
         generalize rd_T61 xs j = cw at *
         have hbp := (HLT.out.at61 HR0.out j0 hjy).2.1
         have hcl := (HLT.out.at61 HR0.out j0 hjy).1
         have HNP := Aside0.mk (show w.heap.size ≠ p ∧ gx ≠ p ∧ w.heap.size ≤ p from by obtain ⟨cells, hc⟩ := hcl; exact ⟨blk_ne HBX.out hc (by decide), blk_ne HYB.out hc (by decide), hbp⟩)
         clear hbp hcl
         go_upto_region 23 with (fail)
         clear x0_ x1_ x2_ x3_
         clear d0 d1 d2 d3
         clear kc_
         refine start_ (n := 22) (S := fun w' => True) (ds := []) #[false, false, false, false, false, false, false, false, false, false, false, false, false, false, false, false, false, false, false, false, false, false] (by kernel_rfl) rfl rfl trivial (fun hHeld => ?_)
         refine with_tabW moved6.tab23 moved6.bits23 (fun HT_ HW_ => ?_)
         have HBW := Aside0.mk (below_drew HB.out)
         have BX := Aside0.mk (show W3.drew.heap[w.heap.size]? = some (.cells #[.slice a0.A0 a0.st.length a0.c0, .slice a0.A1 a0.ri.length a0.c1, .slice a0.A2 a0.ca.length a0.c2, .slice a0.A3 a0.su.length a0.c3] 27 (0, 0)) ∧ W3.drew.heap[gx]? = some (.cells #[.slice Y.A0 Y.st.length Y.c0, .slice Y.A1 Y.ri.length Y.c1, .slice (some ⟨q, 0, none⟩) a0.ca.length Y.c2, .slice Y.A3 Y.su.length Y.c3] 27 (0, 0)) from ⟨HBX.out, HYB.out⟩)
         have LE := Aside0.mk (HLT.out.below (below_drew (Below.refl _ _)))
         have R0 := Aside0.mk (Kd.R_drew HR0.out)
         generalize W3.drew = wd_ at *
         refine inv_at [0, 1, 2, 3, 4, 5, 6, 7, 8, 9, 10, 11, 12, 13, 14, 15, 16, 17, 18, 19, 20, 21] (fun a0_ b a w' => a = putSel a0_ b [(0, 123, .pointer (some ⟨gx, 2, none⟩)), (1, 124, .slice (some ⟨q, 0, none⟩) a0.ca.length Y.c2), (2, 125, .int .i64 i), (3, 126, .pointer (some ⟨q, i.toNat, none⟩)), (4, 127, .slice (some ⟨p, 0, none⟩) xs.length vc), (5, 128, .int .i64 j), (6, 129, .pointer (some ⟨gx, 2, none⟩)), (7, 130, .slice (some ⟨q, 0, none⟩) a0.ca.length Y.c2), (8, 131, .int .i64 i), (9, 132, .pointer (some ⟨q, i.toNat, none⟩)), (10, 133, .slice (some ⟨p, 0, none⟩) xs.length vc), (11, 134, .int .i64 j), (12, 135, .pointer (some ⟨p, j.toNat * 8, none⟩)), (13, 136, .pointer (some ⟨p, j.toNat * 8, none⟩)), (14, 137, .agg #[.int .i64 cw.f0.f0, .int .i64 cw.f0.f1, .int .i64 cw.f0.f2, .int .i64 cw.f0.f3, .int .i64 cw.f0.f4, .int .i64 cw.f0.f5]), (15, 138, .int .i64 e), (16, 139, .int .i64 n), (17, 140, .bool a4), (18, 141, .agg #[.int .i64 (m55 e n a4 cw.f0).f0, .int .i64 (m55 e n a4 cw.f0).f1, .int .i64 (m55 e n a4 cw.f0).f2, .int .i64 (m55 e n a4 cw.f0).f3, .int .i64 (m55 e n a4 cw.f0).f4, .int .i64 (m55 e n a4 cw.f0).f5]), (19, 142, .pointer (some ⟨p, j.toNat * 8, none⟩)), (20, 143, .pointer (some ⟨p, j.toNat * 8, none⟩))] ∧ (Below w.heap.size w w') ∧ (w'.heap[w.heap.size]? = some (.cells #[.slice a0.A0 a0.st.length a0.c0, .slice a0.A1 a0.ri.length a0.c1, .slice a0.A2 a0.ca.length a0.c2, .slice a0.A3 a0.su.length a0.c3] 27 (0, 0)) ∧ w'.heap[gx]? = some (.cells #[.slice Y.A0 Y.st.length Y.c0, .slice Y.A1 Y.ri.length Y.c1, .slice (some ⟨q, 0, none⟩) a0.ca.length Y.c2, .slice Y.A3 Y.su.length Y.c3] 27 (0, 0))) ∧ (Lent Y i q okT okw w.heap.size (.slice (some ⟨p, 0, none⟩) xs.length vc) w') ∧ (b 21 = false → Kd.R k61 61 w' w.heap.size okw (.slice (some ⟨p, 0, none⟩) ys.length vc) (ys.set j.toNat (⟨⟨cw.f0.f0, cw.f0.f1, cw.f0.f2, cw.f0.f3, cw.f0.f4, cw.f0.f5⟩, cw.f1, cw.f2⟩ : S61))) ∧ (b 21 = true → Kd.R k61 61 w' w.heap.size okw (.slice (some ⟨p, 0, none⟩) ys.length vc) (ys.set j.toNat (⟨⟨(m55 e n a4 cw.f0).f0, (m55 e n a4 cw.f0).f1, (m55 e n a4 cw.f0).f2, (m55 e n a4 cw.f0).f3, (m55 e n a4 cw.f0).f4, (m55 e n a4 cw.f0).f5⟩, cw.f1, cw.f2⟩ : S61)))) HT_.out HW_.out (by kernel_rfl) (by kernel_rfl) ?_ ?_ ?_
         · exact ⟨by simp only [putSel, Bool.false_eq_true, if_false], HBW.out, BX.out, LE.out, fun _ => R0.out, fun h_ => absurd h_ (by decide)⟩
         ·
          skip
          clear BX HBW LE R0
          refine steps_cons ?_ ?_
          ·
           rintro b a w' ⟨ha, Q_HBW, Q_BX, Q_LE, Q_R0, Q_R1⟩ hb_ hon hoff
           refine ⟨_, rfl, fun K hK => ?_⟩
           have e13 : a.tmps[13]? = some (.pointer (some ⟨gx, 0, none⟩)) := by rw [ha]; exact (putSel_off rfl).trans rfl
           replace ha := Aside0.mk ha
           have HBW := Aside0.mk Q_HBW
           have BX := Aside0.mk Q_BX
           have LE := Aside0.mk Q_LE
           have R0 := Aside0.mk (Q_R0 (hoff 21 (by kernel_rfl)))
           refine value_ (w1 := w') (v := .pointer (some ⟨gx, 2, none⟩)) (by rfl) rfl ?_ ?_
           ·
            go_simp
            (try simp only [i64_w])
            try rfl
           refine hK.out _ _ ⟨(by rw [ha.out]; exact putSel_upk 0 hb_ rfl rfl rfl), Q_HBW, Q_BX, Q_LE, Q_R0, fun h0_ => absurd ((hoff 21 (by kernel_rfl)).symm.trans h0_) (by decide)⟩
          refine steps_cons ?_ ?_
          ·
           rintro b a w' ⟨ha, Q_HBW, Q_BX, Q_LE, Q_R0, Q_R1⟩ hb_ hon hoff
           refine ⟨_, rfl, fun K hK => ?_⟩
           have e123 : a.tmps[123]? = some (.pointer (some ⟨gx, 2, none⟩)) := by rw [ha]; exact putSel_on (e := (0, 123, .pointer (some ⟨gx, 2, none⟩))) 0 rfl rfl (hon 0 (by kernel_rfl)) rfl
           replace ha := Aside0.mk ha
           have HBW := Aside0.mk Q_HBW
           have BX := Aside0.mk Q_BX
           have LE := Aside0.mk Q_LE
           have R0 := Aside0.mk (Q_R0 (hoff 21 (by kernel_rfl)))
           have k0_ := (blk_cell BX.out.2 2).trans rfl
           refine value_ (w1 := w') (v := .slice (some ⟨q, 0, none⟩) a0.ca.length Y.c2) (by rfl) rfl ?_ ?_
           ·
            go_simp
            (try simp only [i64_w])
            try rfl
           refine hK.out _ _ ⟨(by rw [ha.out]; exact putSel_upk 1 hb_ rfl rfl rfl), Q_HBW, Q_BX, Q_LE, Q_R0, fun h0_ => absurd ((hoff 21 (by kernel_rfl)).symm.trans h0_) (by decide)⟩
          refine steps_cons ?_ ?_
          ·
           rintro b a w' ⟨ha, Q_HBW, Q_BX, Q_LE, Q_R0, Q_R1⟩ hb_ hon hoff
           refine ⟨_, rfl, fun K hK => ?_⟩
           have e19 : a.tmps[19]? = some (.int .i64 i) := by rw [ha]; exact (putSel_off rfl).trans rfl
           replace ha := Aside0.mk ha
           have HBW := Aside0.mk Q_HBW
           have BX := Aside0.mk Q_BX
           have LE := Aside0.mk Q_LE
           have R0 := Aside0.mk (Q_R0 (hoff 21 (by kernel_rfl)))
           refine value_ (w1 := w') (v := .int .i64 i) (by rfl) rfl ?_ ?_
           ·
            go_simp
            (try simp only [i64_w])
            try rfl
           refine hK.out _ _ ⟨(by rw [ha.out]; exact putSel_upk 2 hb_ rfl rfl rfl), Q_HBW, Q_BX, Q_LE, Q_R0, fun h0_ => absurd ((hoff 21 (by kernel_rfl)).symm.trans h0_) (by decide)⟩
          refine steps_cons ?_ ?_
          ·
           rintro b a w' ⟨ha, Q_HBW, Q_BX, Q_LE, Q_R0, Q_R1⟩ hb_ hon hoff
           refine ⟨_, rfl, fun K hK => ?_⟩
           have e124 : a.tmps[124]? = some (.slice (some ⟨q, 0, none⟩) a0.ca.length Y.c2) := by rw [ha]; exact putSel_on (e := (1, 124, .slice (some ⟨q, 0, none⟩) a0.ca.length Y.c2)) 1 rfl rfl (hon 1 (by kernel_rfl)) rfl
           have e125 : a.tmps[125]? = some (.int .i64 i) := by rw [ha]; exact putSel_on (e := (2, 125, .int .i64 i)) 2 rfl rfl (hon 2 (by kernel_rfl)) rfl
           replace ha := Aside0.mk ha
           have HBW := Aside0.mk Q_HBW
           have BX := Aside0.mk Q_BX
           have LE := Aside0.mk Q_LE
           have R0 := Aside0.mk (Q_R0 (hoff 21 (by kernel_rfl)))
           have k1_ : (0 : Int) ≤ i := i0
           have k2_ := hlt
           refine value_ (w1 := w') (v := .pointer (some ⟨q, i.toNat, none⟩)) (by rfl) rfl ?_ ?_
           ·
            go_simp
            (try simp only [i64_w])
            try rfl
           refine hK.out _ _ ⟨(by rw [ha.out]; exact putSel_upk 3 hb_ rfl rfl rfl), Q_HBW, Q_BX, Q_LE, Q_R0, fun h0_ => absurd ((hoff 21 (by kernel_rfl)).symm.trans h0_) (by decide)⟩
          refine steps_cons ?_ ?_
          ·
           rintro b a w' ⟨ha, Q_HBW, Q_BX, Q_LE, Q_R0, Q_R1⟩ hb_ hon hoff
           refine ⟨_, rfl, fun K hK => ?_⟩
           have e126 : a.tmps[126]? = some (.pointer (some ⟨q, i.toNat, none⟩)) := by rw [ha]; exact putSel_on (e := (3, 126, .pointer (some ⟨q, i.toNat, none⟩))) 3 rfl rfl (hon 3 (by kernel_rfl)) rfl
           replace ha := Aside0.mk ha
           have HBW := Aside0.mk Q_HBW
           have BX := Aside0.mk Q_BX
           have LE := Aside0.mk Q_LE
           have R0 := Aside0.mk (Q_R0 (hoff 21 (by kernel_rfl)))
           have k0_ := (LE.out.typed i0 hix).2
           refine value_ (w1 := w') (v := .slice (some ⟨p, 0, none⟩) xs.length vc) (by rfl) rfl ?_ ?_
           ·
            go_simp
            (try simp only [i64_w])
            try rfl
           refine hK.out _ _ ⟨(by rw [ha.out]; exact putSel_upk 4 hb_ rfl rfl rfl), Q_HBW, Q_BX, Q_LE, Q_R0, fun h0_ => absurd ((hoff 21 (by kernel_rfl)).symm.trans h0_) (by decide)⟩
          refine steps_cons ?_ ?_
          ·
           rintro b a w' ⟨ha, Q_HBW, Q_BX, Q_LE, Q_R0, Q_R1⟩ hb_ hon hoff
           refine ⟨_, rfl, fun K hK => ?_⟩
           have e20 : a.tmps[20]? = some (.int .i64 j) := by rw [ha]; exact (putSel_off rfl).trans rfl
           replace ha := Aside0.mk ha
           have HBW := Aside0.mk Q_HBW
           have BX := Aside0.mk Q_BX
           have LE := Aside0.mk Q_LE
           have R0 := Aside0.mk (Q_R0 (hoff 21 (by kernel_rfl)))
           refine value_ (w1 := w') (v := .int .i64 j) (by rfl) rfl ?_ ?_
           ·
            go_simp
            (try simp only [i64_w])
            try rfl
           refine hK.out _ _ ⟨(by rw [ha.out]; exact putSel_upk 5 hb_ rfl rfl rfl), Q_HBW, Q_BX, Q_LE, Q_R0, fun h0_ => absurd ((hoff 21 (by kernel_rfl)).symm.trans h0_) (by decide)⟩
          refine steps_cons ?_ ?_
          ·
           rintro b a w' ⟨ha, Q_HBW, Q_BX, Q_LE, Q_R0, Q_R1⟩ hb_ hon hoff
           refine ⟨_, rfl, fun K hK => ?_⟩
           have e13 : a.tmps[13]? = some (.pointer (some ⟨gx, 0, none⟩)) := by rw [ha]; exact (putSel_off rfl).trans rfl
           replace ha := Aside0.mk ha
           have HBW := Aside0.mk Q_HBW
           have BX := Aside0.mk Q_BX
           have LE := Aside0.mk Q_LE
           have R0 := Aside0.mk (Q_R0 (hoff 21 (by kernel_rfl)))
           refine value_ (w1 := w') (v := .pointer (some ⟨gx, 2, none⟩)) (by rfl) rfl ?_ ?_
           ·
            go_simp
            (try simp only [i64_w])
            try rfl
           refine hK.out _ _ ⟨(by rw [ha.out]; exact putSel_upk 6 hb_ rfl rfl rfl), Q_HBW, Q_BX, Q_LE, Q_R0, fun h0_ => absurd ((hoff 21 (by kernel_rfl)).symm.trans h0_) (by decide)⟩
          refine steps_cons ?_ ?_
          ·
           rintro b a w' ⟨ha, Q_HBW, Q_BX, Q_LE, Q_R0, Q_R1⟩ hb_ hon hoff
           refine ⟨_, rfl, fun K hK => ?_⟩
           have e129 : a.tmps[129]? = some (.pointer (some ⟨gx, 2, none⟩)) := by rw [ha]; exact putSel_on (e := (6, 129, .pointer (some ⟨gx, 2, none⟩))) 6 rfl rfl (hon 6 (by kernel_rfl)) rfl
           replace ha := Aside0.mk ha
           have HBW := Aside0.mk Q_HBW
           have BX := Aside0.mk Q_BX
           have LE := Aside0.mk Q_LE
           have R0 := Aside0.mk (Q_R0 (hoff 21 (by kernel_rfl)))
           have k0_ := (blk_cell BX.out.2 2).trans rfl
           refine value_ (w1 := w') (v := .slice (some ⟨q, 0, none⟩) a0.ca.length Y.c2) (by rfl) rfl ?_ ?_
           ·
            go_simp
            (try simp only [i64_w])
            try rfl
           refine hK.out _ _ ⟨(by rw [ha.out]; exact putSel_upk 7 hb_ rfl rfl rfl), Q_HBW, Q_BX, Q_LE, Q_R0, fun h0_ => absurd ((hoff 21 (by kernel_rfl)).symm.trans h0_) (by decide)⟩
          refine steps_cons ?_ ?_
          ·
           rintro b a w' ⟨ha, Q_HBW, Q_BX, Q_LE, Q_R0, Q_R1⟩ hb_ hon hoff
           refine ⟨_, rfl, fun K hK => ?_⟩
           have e19 : a.tmps[19]? = some (.int .i64 i) := by rw [ha]; exact (putSel_off rfl).trans rfl
           replace ha := Aside0.mk ha
           have HBW := Aside0.mk Q_HBW
           have BX := Aside0.mk Q_BX
           have LE := Aside0.mk Q_LE
           have R0 := Aside0.mk (Q_R0 (hoff 21 (by kernel_rfl)))
           refine value_ (w1 := w') (v := .int .i64 i) (by rfl) rfl ?_ ?_
           ·
            go_simp
            (try simp only [i64_w])
            try rfl
           refine hK.out _ _ ⟨(by rw [ha.out]; exact putSel_upk 8 hb_ rfl rfl rfl), Q_HBW, Q_BX, Q_LE, Q_R0, fun h0_ => absurd ((hoff 21 (by kernel_rfl)).symm.trans h0_) (by decide)⟩
          refine steps_cons ?_ ?_
          ·
           rintro b a w' ⟨ha, Q_HBW, Q_BX, Q_LE, Q_R0, Q_R1⟩ hb_ hon hoff
           refine ⟨_, rfl, fun K hK => ?_⟩
           have e130 : a.tmps[130]? = some (.slice (some ⟨q, 0, none⟩) a0.ca.length Y.c2) := by rw [ha]; exact putSel_on (e := (7, 130, .slice (some ⟨q, 0, none⟩) a0.ca.length Y.c2)) 7 rfl rfl (hon 7 (by kernel_rfl)) rfl
           have e131 : a.tmps[131]? = some (.int .i64 i) := by rw [ha]; exact putSel_on (e := (8, 131, .int .i64 i)) 8 rfl rfl (hon 8 (by kernel_rfl)) rfl
           replace ha := Aside0.mk ha
           have HBW := Aside0.mk Q_HBW
           have BX := Aside0.mk Q_BX
           have LE := Aside0.mk Q_LE
           have R0 := Aside0.mk (Q_R0 (hoff 21 (by kernel_rfl)))
           have k1_ : (0 : Int) ≤ i := i0
           have k2_ := hlt
           refine value_ (w1 := w') (v := .pointer (some ⟨q, i.toNat, none⟩)) (by rfl) rfl ?_ ?_
           ·
            go_simp
            (try simp only [i64_w])
            try rfl
           refine hK.out _ _ ⟨(by rw [ha.out]; exact putSel_upk 9 hb_ rfl rfl rfl), Q_HBW, Q_BX, Q_LE, Q_R0, fun h0_ => absurd ((hoff 21 (by kernel_rfl)).symm.trans h0_) (by decide)⟩
          refine steps_cons ?_ ?_
          ·
           rintro b a w' ⟨ha, Q_HBW, Q_BX, Q_LE, Q_R0, Q_R1⟩ hb_ hon hoff
           refine ⟨_, rfl, fun K hK => ?_⟩
           have e132 : a.tmps[132]? = some (.pointer (some ⟨q, i.toNat, none⟩)) := by rw [ha]; exact putSel_on (e := (9, 132, .pointer (some ⟨q, i.toNat, none⟩))) 9 rfl rfl (hon 9 (by kernel_rfl)) rfl
           replace ha := Aside0.mk ha
           have HBW := Aside0.mk Q_HBW
           have BX := Aside0.mk Q_BX
           have LE := Aside0.mk Q_LE
           have R0 := Aside0.mk (Q_R0 (hoff 21 (by kernel_rfl)))
           have k0_ := (LE.out.typed i0 hix).2
           refine value_ (w1 := w') (v := .slice (some ⟨p, 0, none⟩) xs.length vc) (by rfl) rfl ?_ ?_
           ·
            go_simp
            (try simp only [i64_w])
            try rfl
           refine hK.out _ _ ⟨(by rw [ha.out]; exact putSel_upk 10 hb_ rfl rfl rfl), Q_HBW, Q_BX, Q_LE, Q_R0, fun h0_ => absurd ((hoff 21 (by kernel_rfl)).symm.trans h0_) (by decide)⟩
          refine steps_cons ?_ ?_
          ·
           rintro b a w' ⟨ha, Q_HBW, Q_BX, Q_LE, Q_R0, Q_R1⟩ hb_ hon hoff
           refine ⟨_, rfl, fun K hK => ?_⟩
           have e20 : a.tmps[20]? = some (.int .i64 j) := by rw [ha]; exact (putSel_off rfl).trans rfl
           replace ha := Aside0.mk ha
           have HBW := Aside0.mk Q_HBW
           have BX := Aside0.mk Q_BX
           have LE := Aside0.mk Q_LE
           have R0 := Aside0.mk (Q_R0 (hoff 21 (by kernel_rfl)))
           refine value_ (w1 := w') (v := .int .i64 j) (by rfl) rfl ?_ ?_
           ·
            go_simp
            (try simp only [i64_w])
            try rfl
           refine hK.out _ _ ⟨(by rw [ha.out]; exact putSel_upk 11 hb_ rfl rfl rfl), Q_HBW, Q_BX, Q_LE, Q_R0, fun h0_ => absurd ((hoff 21 (by kernel_rfl)).symm.trans h0_) (by decide)⟩
          refine steps_cons ?_ ?_
          ·
           rintro b a w' ⟨ha, Q_HBW, Q_BX, Q_LE, Q_R0, Q_R1⟩ hb_ hon hoff
           refine ⟨_, rfl, fun K hK => ?_⟩
           have e133 : a.tmps[133]? = some (.slice (some ⟨p, 0, none⟩) xs.length vc) := by rw [ha]; exact putSel_on (e := (10, 133, .slice (some ⟨p, 0, none⟩) xs.length vc)) 10 rfl rfl (hon 10 (by kernel_rfl)) rfl
           have e134 : a.tmps[134]? = some (.int .i64 j) := by rw [ha]; exact putSel_on (e := (11, 134, .int .i64 j)) 11 rfl rfl (hon 11 (by kernel_rfl)) rfl
           replace ha := Aside0.mk ha
           have HBW := Aside0.mk Q_HBW
           have BX := Aside0.mk Q_BX
           have LE := Aside0.mk Q_LE
           have R0 := Aside0.mk (Q_R0 (hoff 21 (by kernel_rfl)))
           have k1_ : (0 : Int) ≤ j := j0
           have k2_ := hjt
           refine value_ (w1 := w') (v := .pointer (some ⟨p, j.toNat * 8, none⟩)) (by rfl) rfl ?_ ?_
           ·
            go_simp
            (try simp only [i64_w])
            try rfl
           refine hK.out _ _ ⟨(by rw [ha.out]; exact putSel_upk 12 hb_ rfl rfl rfl), Q_HBW, Q_BX, Q_LE, Q_R0, fun h0_ => absurd ((hoff 21 (by kernel_rfl)).symm.trans h0_) (by decide)⟩
          refine steps_cons ?_ ?_
          ·
           rintro b a w' ⟨ha, Q_HBW, Q_BX, Q_LE, Q_R0, Q_R1⟩ hb_ hon hoff
           refine ⟨_, rfl, fun K hK => ?_⟩
           have e135 : a.tmps[135]? = some (.pointer (some ⟨p, j.toNat * 8, none⟩)) := by rw [ha]; exact putSel_on (e := (12, 135, .pointer (some ⟨p, j.toNat * 8, none⟩))) 12 rfl rfl (hon 12 (by kernel_rfl)) rfl
           replace ha := Aside0.mk ha
           have HBW := Aside0.mk Q_HBW
           have BX := Aside0.mk Q_BX
           have LE := Aside0.mk Q_LE
           have R0 := Aside0.mk (Q_R0 (hoff 21 (by kernel_rfl)))
           refine value_ (w1 := w') (v := .pointer (some ⟨p, j.toNat * 8, none⟩)) (by rfl) rfl ?_ ?_
           ·
            go_simp
            (try simp only [i64_w])
            try rfl
           refine hK.out _ _ ⟨(by rw [ha.out]; exact putSel_upk 13 hb_ rfl rfl rfl), Q_HBW, Q_BX, Q_LE, Q_R0, fun h0_ => absurd ((hoff 21 (by kernel_rfl)).symm.trans h0_) (by decide)⟩
          refine steps_cons ?_ ?_
          ·
           rintro b a w' ⟨ha, Q_HBW, Q_BX, Q_LE, Q_R0, Q_R1⟩ hb_ hon hoff
           refine ⟨_, rfl, fun K hK => ?_⟩
           have e136 : a.tmps[136]? = some (.pointer (some ⟨p, j.toNat * 8, none⟩)) := by rw [ha]; exact putSel_on (e := (13, 136, .pointer (some ⟨p, j.toNat * 8, none⟩))) 13 rfl rfl (hon 13 (by kernel_rfl)) rfl
           replace ha := Aside0.mk ha
           have HBW := Aside0.mk Q_HBW
           have BX := Aside0.mk Q_BX
           have LE := Aside0.mk Q_LE
           have R0 := Aside0.mk (Q_R0 (hoff 21 (by kernel_rfl)))
           have hc_ := (LE.out.at61 R0.out j0 hjy).2.2.1
           have k0_ := hc_ 0 _ rfl
           have k1_ := hc_ 1 _ rfl
           have k2_ := hc_ 2 _ rfl
           have k3_ := hc_ 3 _ rfl
           have k4_ := hc_ 4 _ rfl
           have k5_ := hc_ 5 _ rfl
           clear hc_
           simp only [Nat.add_zero] at k0_
           refine value_ (w1 := w') (v := .agg #[.int .i64 cw.f0.f0, .int .i64 cw.f0.f1, .int .i64 cw.f0.f2, .int .i64 cw.f0.f3, .int .i64 cw.f0.f4, .int .i64 cw.f0.f5]) (by rfl) rfl ?_ ?_
           ·
            go_simp
            (try simp only [i64_w])
            try rfl
           refine hK.out _ _ ⟨(by rw [ha.out]; exact putSel_upk 14 hb_ rfl rfl rfl), Q_HBW, Q_BX, Q_LE, Q_R0, fun h0_ => absurd ((hoff 21 (by kernel_rfl)).symm.trans h0_) (by decide)⟩
          refine steps_cons ?_ ?_
          ·
           rintro b a w' ⟨ha, Q_HBW, Q_BX, Q_LE, Q_R0, Q_R1⟩ hb_ hon hoff
           refine ⟨_, rfl, fun K hK => ?_⟩
           have e14 : a.tmps[14]? = some (.int .i64 e) := by rw [ha]; exact (putSel_off rfl).trans rfl
           replace ha := Aside0.mk ha
           have HBW := Aside0.mk Q_HBW
           have BX := Aside0.mk Q_BX
           have LE := Aside0.mk Q_LE
           have R0 := Aside0.mk (Q_R0 (hoff 21 (by kernel_rfl)))
           refine value_ (w1 := w') (v := .int .i64 e) (by rfl) rfl ?_ ?_
           ·
            go_simp
            (try simp only [i64_w])
            try rfl
           refine hK.out _ _ ⟨(by rw [ha.out]; exact putSel_upk 15 hb_ rfl rfl rfl), Q_HBW, Q_BX, Q_LE, Q_R0, fun h0_ => absurd ((hoff 21 (by kernel_rfl)).symm.trans h0_) (by decide)⟩
          refine steps_cons ?_ ?_
          ·
           rintro b a w' ⟨ha, Q_HBW, Q_BX, Q_LE, Q_R0, Q_R1⟩ hb_ hon hoff
           refine ⟨_, rfl, fun K hK => ?_⟩
           have e15 : a.tmps[15]? = some (.int .i64 n) := by rw [ha]; exact (putSel_off rfl).trans rfl
           replace ha := Aside0.mk ha
           have HBW := Aside0.mk Q_HBW
           have BX := Aside0.mk Q_BX
           have LE := Aside0.mk Q_LE
           have R0 := Aside0.mk (Q_R0 (hoff 21 (by kernel_rfl)))
           refine value_ (w1 := w') (v := .int .i64 n) (by rfl) rfl ?_ ?_
           ·
            go_simp
            (try simp only [i64_w])
            try rfl
           refine hK.out _ _ ⟨(by rw [ha.out]; exact putSel_upk 16 hb_ rfl rfl rfl), Q_HBW, Q_BX, Q_LE, Q_R0, fun h0_ => absurd ((hoff 21 (by kernel_rfl)).symm.trans h0_) (by decide)⟩
          refine steps_cons ?_ ?_
          ·
           rintro b a w' ⟨ha, Q_HBW, Q_BX, Q_LE, Q_R0, Q_R1⟩ hb_ hon hoff
           refine ⟨_, rfl, fun K hK => ?_⟩
           have e4 : a.tmps[4]? = some (.bool a4) := by rw [ha]; exact (putSel_off rfl).trans rfl
           replace ha := Aside0.mk ha
           have HBW := Aside0.mk Q_HBW
           have BX := Aside0.mk Q_BX
           have LE := Aside0.mk Q_LE
           have R0 := Aside0.mk (Q_R0 (hoff 21 (by kernel_rfl)))
           refine value_ (w1 := w') (v := .bool a4) (by rfl) rfl ?_ ?_
           ·
            go_simp
            (try simp only [i64_w])
            try rfl
           refine hK.out _ _ ⟨(by rw [ha.out]; exact putSel_upk 17 hb_ rfl rfl rfl), Q_HBW, Q_BX, Q_LE, Q_R0, fun h0_ => absurd ((hoff 21 (by kernel_rfl)).symm.trans h0_) (by decide)⟩
          refine steps_cons ?_ ?_
          ·
           rintro b a w' ⟨ha, Q_HBW, Q_BX, Q_LE, Q_R0, Q_R1⟩ hb_ hon hoff
           refine ⟨_, rfl, fun K hK => ?_⟩
           have e137 : a.tmps[137]? = some (.agg #[.int .i64 cw.f0.f0, .int .i64 cw.f0.f1, .int .i64 cw.f0.f2, .int .i64 cw.f0.f3, .int .i64 cw.f0.f4, .int .i64 cw.f0.f5]) := by rw [ha]; exact putSel_on (e := (14, 137, .agg #[.int .i64 cw.f0.f0, .int .i64 cw.f0.f1, .int .i64 cw.f0.f2, .int .i64 cw.f0.f3, .int .i64 cw.f0.f4, .int .i64 cw.f0.f5])) 14 rfl rfl (hon 14 (by kernel_rfl)) rfl
           have e138 : a.tmps[138]? = some (.int .i64 e) := by rw [ha]; exact putSel_on (e := (15, 138, .int .i64 e)) 15 rfl rfl (hon 15 (by kernel_rfl)) rfl
           have e139 : a.tmps[139]? = some (.int .i64 n) := by rw [ha]; exact putSel_on (e := (16, 139, .int .i64 n)) 16 rfl rfl (hon 16 (by kernel_rfl)) rfl
           have e140 : a.tmps[140]? = some (.bool a4) := by rw [ha]; exact putSel_on (e := (17, 140, .bool a4)) 17 rfl rfl (hon 17 (by kernel_rfl)) rfl
           replace ha := Aside0.mk ha
           have HBW := Aside0.mk Q_HBW
           have BX := Aside0.mk Q_BX
           have LE := Aside0.mk Q_LE
           have R0 := Aside0.mk (Q_R0 (hoff 21 (by kernel_rfl)))
           refine call_ 35 #[.agg #[.int .i64 cw.f0.f0, .int .i64 cw.f0.f1, .int .i64 cw.f0.f2, .int .i64 cw.f0.f3, .int .i64 cw.f0.f4, .int .i64 cw.f0.f5], .int .i64 e, .int .i64 n, .bool a4] (by rfl) rfl (by go_simp) ?_
           refine (moved_c cw.f0 e n a4 w' HBD.out hee hnn).mono ?_
           rintro e_ w2 ⟨rfl, hbb⟩
           refine ⟨_, rfl, ?_⟩
           refine hK.out _ _ ⟨(by rw [ha.out]; exact putSel_upk 18 hb_ rfl rfl rfl), bt HBW.out hbb, ⟨blk_below BX.out.1 hbb, blk_below BX.out.2 hbb⟩, LE.out.below hbb, fun _ => Kd.R_below R0.out hbb, fun h0_ => absurd ((hoff 21 (by kernel_rfl)).symm.trans h0_) (by decide)⟩
          refine steps_cons ?_ ?_
          ·
           rintro b a w' ⟨ha, Q_HBW, Q_BX, Q_LE, Q_R0, Q_R1⟩ hb_ hon hoff
           refine ⟨_, rfl, fun K hK => ?_⟩
           have e127 : a.tmps[127]? = some (.slice (some ⟨p, 0, none⟩) xs.length vc) := by rw [ha]; exact putSel_on (e := (4, 127, .slice (some ⟨p, 0, none⟩) xs.length vc)) 4 rfl rfl (hon 4 (by kernel_rfl)) rfl
           have e128 : a.tmps[128]? = some (.int .i64 j) := by rw [ha]; exact putSel_on (e := (5, 128, .int .i64 j)) 5 rfl rfl (hon 5 (by kernel_rfl)) rfl
           replace ha := Aside0.mk ha
           have HBW := Aside0.mk Q_HBW
           have BX := Aside0.mk Q_BX
           have LE := Aside0.mk Q_LE
           have R0 := Aside0.mk (Q_R0 (hoff 21 (by kernel_rfl)))
           have k1_ : (0 : Int) ≤ j := j0
           have k2_ := hjt
           refine value_ (w1 := w') (v := .pointer (some ⟨p, j.toNat * 8, none⟩)) (by rfl) rfl ?_ ?_
           ·
            go_simp
            (try simp only [i64_w])
            try rfl
           refine hK.out _ _ ⟨(by rw [ha.out]; exact putSel_upk 19 hb_ rfl rfl rfl), Q_HBW, Q_BX, Q_LE, Q_R0, fun h0_ => absurd ((hoff 21 (by kernel_rfl)).symm.trans h0_) (by decide)⟩
          refine steps_cons ?_ ?_
          ·
           rintro b a w' ⟨ha, Q_HBW, Q_BX, Q_LE, Q_R0, Q_R1⟩ hb_ hon hoff
           refine ⟨_, rfl, fun K hK => ?_⟩
           have e142 : a.tmps[142]? = some (.pointer (some ⟨p, j.toNat * 8, none⟩)) := by rw [ha]; exact putSel_on (e := (19, 142, .pointer (some ⟨p, j.toNat * 8, none⟩))) 19 rfl rfl (hon 19 (by kernel_rfl)) rfl
           replace ha := Aside0.mk ha
           have HBW := Aside0.mk Q_HBW
           have BX := Aside0.mk Q_BX
           have LE := Aside0.mk Q_LE
           have R0 := Aside0.mk (Q_R0 (hoff 21 (by kernel_rfl)))
           refine value_ (w1 := w') (v := .pointer (some ⟨p, j.toNat * 8, none⟩)) (by rfl) rfl ?_ ?_
           ·
            go_simp
            (try simp only [i64_w])
            try rfl
           refine hK.out _ _ ⟨(by rw [ha.out]; exact putSel_upk 20 hb_ rfl rfl rfl), Q_HBW, Q_BX, Q_LE, Q_R0, fun h0_ => absurd ((hoff 21 (by kernel_rfl)).symm.trans h0_) (by decide)⟩
          refine steps_cons ?_ ?_
          ·
           rintro b a w' ⟨ha, Q_HBW, Q_BX, Q_LE, Q_R0, Q_R1⟩ hb_ hon hoff
           refine ⟨_, rfl, fun K hK => ?_⟩
           have e143 : a.tmps[143]? = some (.pointer (some ⟨p, j.toNat * 8, none⟩)) := by rw [ha]; exact putSel_on (e := (20, 143, .pointer (some ⟨p, j.toNat * 8, none⟩))) 20 rfl rfl (hon 20 (by kernel_rfl)) rfl
           have e141 : a.tmps[141]? = some (.agg #[.int .i64 (m55 e n a4 cw.f0).f0, .int .i64 (m55 e n a4 cw.f0).f1, .int .i64 (m55 e n a4 cw.f0).f2, .int .i64 (m55 e n a4 cw.f0).f3, .int .i64 (m55 e n a4 cw.f0).f4, .int .i64 (m55 e n a4 cw.f0).f5]) := by rw [ha]; exact putSel_on (e := (18, 141, .agg #[.int .i64 (m55 e n a4 cw.f0).f0, .int .i64 (m55 e n a4 cw.f0).f1, .int .i64 (m55 e n a4 cw.f0).f2, .int .i64 (m55 e n a4 cw.f0).f3, .int .i64 (m55 e n a4 cw.f0).f4, .int .i64 (m55 e n a4 cw.f0).f5])) 18 rfl rfl (hon 18 (by kernel_rfl)) rfl
           replace ha := Aside0.mk ha
           have HBW := Aside0.mk Q_HBW
           have BX := Aside0.mk Q_BX
           have LE := Aside0.mk Q_LE
           have R0 := Aside0.mk (Q_R0 hb_)
           have l0_ := LE.out
           have h0_ := R0.out
           obtain ⟨⟨cells0_, hl0_⟩, _, hc0_, hp0_⟩ := l0_.at61 h0_ j0 hjy
           have c0 := hc0_ 0 _ rfl
           have f0 := blk_frozen hl0_ (j.toNat * 8 + 0)
           obtain ⟨l1_, h1_⟩ := hp0_ 0 (.int .i64 (m55 e n a4 cw.f0).f0) (⟨⟨(m55 e n a4 cw.f0).f0, cw.f0.f1, cw.f0.f2, cw.f0.f3, cw.f0.f4, cw.f0.f5⟩, cw.f1, cw.f2⟩ : S61) (by decide) rfl
           obtain ⟨⟨cells1_, hl1_⟩, _, hc1_, hp1_⟩ := l1_.at61 h1_ j0 hjy
           have c1 := hc1_ 1 _ rfl
           have f1 := blk_frozen hl1_ (j.toNat * 8 + 1)
           obtain ⟨l2_, h2_⟩ := hp1_ 1 (.int .i64 (m55 e n a4 cw.f0).f1) (⟨⟨(m55 e n a4 cw.f0).f0, (m55 e n a4 cw.f0).f1, cw.f0.f2, cw.f0.f3, cw.f0.f4, cw.f0.f5⟩, cw.f1, cw.f2⟩ : S61) (by decide) rfl
           obtain ⟨⟨cells2_, hl2_⟩, _, hc2_, hp2_⟩ := l2_.at61 h2_ j0 hjy
           have c2 := hc2_ 2 _ rfl
           have f2 := blk_frozen hl2_ (j.toNat * 8 + 2)
           obtain ⟨l3_, h3_⟩ := hp2_ 2 (.int .i64 (m55 e n a4 cw.f0).f2) (⟨⟨(m55 e n a4 cw.f0).f0, (m55 e n a4 cw.f0).f1, (m55 e n a4 cw.f0).f2, cw.f0.f3, cw.f0.f4, cw.f0.f5⟩, cw.f1, cw.f2⟩ : S61) (by decide) rfl
           obtain ⟨⟨cells3_, hl3_⟩, _, hc3_, hp3_⟩ := l3_.at61 h3_ j0 hjy
           have c3 := hc3_ 3 _ rfl
           have f3 := blk_frozen hl3_ (j.toNat * 8 + 3)
           obtain ⟨l4_, h4_⟩ := hp3_ 3 (.int .i64 (m55 e n a4 cw.f0).f3) (⟨⟨(m55 e n a4 cw.f0).f0, (m55 e n a4 cw.f0).f1, (m55 e n a4 cw.f0).f2, (m55 e n a4 cw.f0).f3, cw.f0.f4, cw.f0.f5⟩, cw.f1, cw.f2⟩ : S61) (by decide) rfl
           obtain ⟨⟨cells4_, hl4_⟩, _, hc4_, hp4_⟩ := l4_.at61 h4_ j0 hjy
           have c4 := hc4_ 4 _ rfl
           have f4 := blk_frozen hl4_ (j.toNat * 8 + 4)
           obtain ⟨l5_, h5_⟩ := hp4_ 4 (.int .i64 (m55 e n a4 cw.f0).f4) (⟨⟨(m55 e n a4 cw.f0).f0, (m55 e n a4 cw.f0).f1, (m55 e n a4 cw.f0).f2, (m55 e n a4 cw.f0).f3, (m55 e n a4 cw.f0).f4, cw.f0.f5⟩, cw.f1, cw.f2⟩ : S61) (by decide) rfl
           obtain ⟨⟨cells5_, hl5_⟩, _, hc5_, hp5_⟩ := l5_.at61 h5_ j0 hjy
           have c5 := hc5_ 5 _ rfl
           have f5 := blk_frozen hl5_ (j.toNat * 8 + 5)
           obtain ⟨l6_, h6_⟩ := hp5_ 5 (.int .i64 (m55 e n a4 cw.f0).f5) (⟨⟨(m55 e n a4 cw.f0).f0, (m55 e n a4 cw.f0).f1, (m55 e n a4 cw.f0).f2, (m55 e n a4 cw.f0).f3, (m55 e n a4 cw.f0).f4, (m55 e n a4 cw.f0).f5⟩, cw.f1, cw.f2⟩ : S61) (by decide) rfl
           simp only [Nat.add_zero] at c0 f0 c1 f1 c2 f2 c3 f3 c4 f4 c5 f5
           have hL1 := Aside0.mk l6_
           have hR1 := Aside0.mk h6_
           clear hl0_ hc0_ hp0_ hl1_ hc1_ hp1_ hl2_ hc2_ hp2_ hl3_ hc3_ hp3_ hl4_ hc4_ hp4_ hl5_ hc5_ hp5_ h0_ l0_ h1_ l1_ h2_ l2_ h3_ l3_ h4_ l4_ h5_ l5_ h6_ l6_
           refine skip_ (w1 := ((((((w'.setCell ⟨p, j.toNat * 8 + 0, none⟩ (.int .i64 (m55 e n a4 cw.f0).f0)).setCell ⟨p, j.toNat * 8 + 1, none⟩ (.int .i64 (m55 e n a4 cw.f0).f1)).setCell ⟨p, j.toNat * 8 + 2, none⟩ (.int .i64 (m55 e n a4 cw.f0).f2)).setCell ⟨p, j.toNat * 8 + 3, none⟩ (.int .i64 (m55 e n a4 cw.f0).f3)).setCell ⟨p, j.toNat * 8 + 4, none⟩ (.int .i64 (m55 e n a4 cw.f0).f4)).setCell ⟨p, j.toNat * 8 + 5, none⟩ (.int .i64 (m55 e n a4 cw.f0).f5))) (by rfl) rfl (by go_simp) ?_
           refine hK.out _ _ ⟨(by rw [ha.out]; exact putSel_none (v := undef) rfl), below_set (below_set (below_set (below_set (below_set (below_set (HBW.out) HNP.out.2.2) HNP.out.2.2) HNP.out.2.2) HNP.out.2.2) HNP.out.2.2) HNP.out.2.2, ⟨blk_far (p := ⟨p, j.toNat * 8 + 5, none⟩) (blk_far (p := ⟨p, j.toNat * 8 + 4, none⟩) (blk_far (p := ⟨p, j.toNat * 8 + 3, none⟩) (blk_far (p := ⟨p, j.toNat * 8 + 2, none⟩) (blk_far (p := ⟨p, j.toNat * 8 + 1, none⟩) (blk_far (p := ⟨p, j.toNat * 8 + 0, none⟩) (BX.out.1) HNP.out.1 _) HNP.out.1 _) HNP.out.1 _) HNP.out.1 _) HNP.out.1 _) HNP.out.1 _, blk_far (p := ⟨p, j.toNat * 8 + 5, none⟩) (blk_far (p := ⟨p, j.toNat * 8 + 4, none⟩) (blk_far (p := ⟨p, j.toNat * 8 + 3, none⟩) (blk_far (p := ⟨p, j.toNat * 8 + 2, none⟩) (blk_far (p := ⟨p, j.toNat * 8 + 1, none⟩) (blk_far (p := ⟨p, j.toNat * 8 + 0, none⟩) (BX.out.2) HNP.out.2.1 _) HNP.out.2.1 _) HNP.out.2.1 _) HNP.out.2.1 _) HNP.out.2.1 _) HNP.out.2.1 _⟩, hL1.out, fun h0_ => absurd ((up_self b 21).symm.trans h0_) (by decide), fun _ => hR1.out⟩
          exact steps_nil
         ·
          rintro b a w' hall ⟨ha, Q_HBW, Q_BX, Q_LE, Q_R0, Q_R1⟩
          clear BX HBW LE R0
          have hb0_ := hall 0 (by kernel_rfl)
          have hb1_ := hall 1 (by kernel_rfl)
          have hb2_ := hall 2 (by kernel_rfl)
          have hb3_ := hall 3 (by kernel_rfl)
          have hb4_ := hall 4 (by kernel_rfl)
          have hb5_ := hall 5 (by kernel_rfl)
          have hb6_ := hall 6 (by kernel_rfl)
          have hb7_ := hall 7 (by kernel_rfl)
          have hb8_ := hall 8 (by kernel_rfl)
          have hb9_ := hall 9 (by kernel_rfl)
          have hb10_ := hall 10 (by kernel_rfl)
          have hb11_ := hall 11 (by kernel_rfl)
          have hb12_ := hall 12 (by kernel_rfl)
          have hb13_ := hall 13 (by kernel_rfl)
          have hb14_ := hall 14 (by kernel_rfl)
          have hb15_ := hall 15 (by kernel_rfl)
          have hb16_ := hall 16 (by kernel_rfl)
          have hb17_ := hall 17 (by kernel_rfl)
          have hb18_ := hall 18 (by kernel_rfl)
          have hb19_ := hall 19 (by kernel_rfl)
          have hb20_ := hall 20 (by kernel_rfl)
          have hb21_ := hall 21 (by kernel_rfl)
          subst ha
          simp only [putSel, hb0_, hb1_, hb2_, hb3_, hb4_, hb5_, hb6_, hb7_, hb8_, hb9_, hb10_, hb11_, hb12_, hb13_, hb14_, hb15_, hb16_, hb17_, hb18_, hb19_, hb20_, hb21_, if_true, Act.put, List.setIfInBounds_toArray, List.set_cons_zero, List.set_cons_succ]
          have HBW := Aside0.mk Q_HBW
          clear Q_HBW
          have BX := Aside0.mk Q_BX
          clear Q_BX
          have LE := Aside0.mk Q_LE
          clear Q_LE
          clear Q_R0
          have R1 := Aside0.mk (Q_R1 hb21_)
          clear Q_R1
          clear hall hb0_ hb1_ hb2_ hb3_ hb4_ hb5_ hb6_ hb7_ hb8_ hb9_ hb10_ hb11_ hb12_ hb13_ hb14_ hb15_ hb16_ hb17_ hb18_ hb19_ hb20_ hb21_
          obtain ⟨W4, rfl⟩ : ∃ W_ : World, W_ = w' := ⟨_, rfl⟩
          have HB := HBW
          have HBX := Aside0.mk BX.out.1
          have HYB := Aside0.mk BX.out.2
          have HLT := LE
          have hj1 : (j + 1).toNat = j.toNat + 1 := by omega
          have HRR := Aside0.mk (show Kd.R k61 61 W4 w.heap.size okw (.slice (some ⟨p, 0, none⟩) xs.length vc) (mixL (m61 e n a4) (j.toNat + 1) xs) from by rw [← HMY.out (⟨⟨(m55 e n a4 cw.f0).f0, (m55 e n a4 cw.f0).f1, (m55 e n a4 cw.f0).f2, (m55 e n a4 cw.f0).f3, (m55 e n a4 cw.f0).f4, (m55 e n a4 cw.f0).f5⟩, cw.f1, cw.f2⟩ : S61) rfl, ← HYS.out]; exact R1.out)
          clear HBW BX LE R1 HNP HBD
          go_wp2_with fail
          go_roundg (xs.length - (j + 1).toNat)
          case measure => omega
          case rel => exact ⟨j + 1, by first | rfl | go_num, by omega, by omega, by omega, HB, HBX, HYB, HLT, by rw [hj1]; exact HRR⟩
        ·
         have e_ : j = (xs.length : Int) := by omega
         subst e_
         rw [Int.toNat_natCast, mix_end] at HRR
         have hgv := Aside0.mk ((HLT.out.give HRR.out HA2.out).mono (ok' := (fun _ => True)) (fun _ _ => trivial))
         clear HRR HLT
         have hi1 : (i + 1).toNat = i.toNat + 1 := by omega
         have hcq : Aside0 (Cq { X with st := a0.st.map (m65 e n a4), ri := a0.ri.map (m55 e n a4), ca := mixL (fun c => c.map (m61 e n a4)) (i.toNat + 1) a0.ca, su := a0.su } gx (fun _ => True) w.heap.size W3) := by
          have hY := HY.out
          subst hY
          exact ⟨⟨by show W3.heap[gx]? = some (.cells #[.slice X.A0 (a0.st.map (m65 e n a4)).length X.c0, .slice X.A1 (a0.ri.map (m55 e n a4)).length X.c1, .slice X.A2 (mixL (fun c => c.map (m61 e n a4)) (i.toNat + 1) a0.ca).length X.c2, .slice X.A3 a0.su.length X.c3] 27 (0, 0)); rw [mix_len, show X.A2 = some ⟨q, 0, none⟩ from HA2.out]; exact HYB.out, by rw [← HMX.out (xs.map (m61 e n a4)) rfl]; exact hgv.out⟩⟩
         clear hgv
         go_wp2_with fail
         go_roundg (a0.ca.length - (i + 1).toNat)
         case measure => omega
         case rel => exact ⟨i + 1, by first | rfl | go_num, by omega, by omega, by omega, HB, HBX, by rw [hi1]; exact hcq⟩
      ·
       have e_ : i = (a0.ca.length : Int) := by omega
       subst e_
       go_wp2_with fail
       clear x0_ x1_ x2_ x3_
       clear d0 d1 d2 d3
       rw [hY, Int.toNat_natCast, mix_end] at CQ
       clear hY HYL hyl HYB i0 i1 hgi hlt Y
       go_loopg [21] a0.su.length (fun gg s21 wr => ∃ i : Int, s21 = .int .i64 i ∧ 0 ≤ i ∧ i ≤ (a0.su.length : Int) ∧ (a0.su.length : Int) - i ≤ (gg : Int) ∧ Aside0 (Below w.heap.size w wr) ∧ Aside0 (wr.heap[w.heap.size]? = some (.cells #[.slice a0.A0 a0.st.length a0.c0, .slice a0.A1 a0.ri.length a0.c1, .slice a0.A2 a0.ca.length a0.c2, .slice a0.A3 a0.su.length a0.c3] 27 (0, 0))) ∧ Aside0 (Cq { X with st := a0.st.map (m65 e n a4), ri := a0.ri.map (m55 e n a4), ca := a0.ca.map (fun c => c.map (m61 e n a4)), su := mixL (m50 a4) i.toNat a0.su } gx (fun _ => True) w.heap.size wr))
       case atStart => exact ⟨0, rfl, by omega, by omega, by omega, HB, HBX, CQ⟩
       case round =>
        clear HB HBX CQ
        obtain ⟨i, rfl, i0, i1, hgi, HB, HBX, CQ⟩ := hrel
        obtain ⟨W2, rfl⟩ : ∃ W2 : World, W2 = wr := ⟨_, rfl⟩
        obtain ⟨Y, hY⟩ : ∃ Y : Rv, Y = { X with st := a0.st.map (m65 e n a4), ri := a0.ri.map (m55 e n a4), ca := a0.ca.map (fun c => c.map (m61 e n a4)), su := mixL (m50 a4) i.toNat a0.su } := ⟨_, rfl⟩
        rw [← hY] at CQ
        have HYL := Aside0.mk (show Y.su.length = a0.su.length from by rw [hY]; exact mix_len _ _ _)
        have hyl := HYL.out
        have hbx := CQ.out.box
        rw [hyl] at hbx
        have HYB := Aside0.mk hbx
        clear hbx
        have d0 := (blk_cell HBX.out 0).trans rfl
        have d1 := (blk_cell HBX.out 1).trans rfl
        have d2 := (blk_cell HBX.out 2).trans rfl
        have d3 := (blk_cell HBX.out 3).trans rfl
        have x0_ := (blk_cell HYB.out 0).trans rfl
        have x1_ := (blk_cell HYB.out 1).trans rfl
        have x2_ := (blk_cell HYB.out 2).trans rfl
        have x3_ := (blk_cell HYB.out 3).trans rfl
        by_cases hlt : i < (a0.su.length : Int)
        ·
         cases a4
         ·
          go_upto_region 28 with (fail)
          clear x0_ x1_ x2_ x3_
          clear d0 d1 d2 d3
          have hid : List.map (m50 false) a0.su = a0.su := by rw [← mix_end (m50 false) a0.su]; exact mix_id _ (fun _ => rfl) _ _
          have hid2 : mixL (m50 false) i.toNat a0.su = a0.su := mix_id _ (fun _ => rfl) _ _
          rw [hY, hid2, ← hid] at CQ
          clear hid hid2 hY HYL hyl HYB i0 i1 hgi hlt Y
          obtain ⟨Z, hZ⟩ : ∃ Z : Rv, Z = { X with st := a0.st.map (m65 e n false), ri := a0.ri.map (m55 e n false), ca := a0.ca.map (fun c => c.map (m61 e n false)), su := a0.su.map (m50 false) } := ⟨_, rfl⟩
          rw [← hZ] at CQ
          have HLW := Aside0.mk (moved_law (R := a0) (X := Z) (a := pa) (b := pb) (e := e) (n := n) (r := false) HC.out HF.out HP.out.1 HP.out.2.1 HP.out.2.2 hc1 hu1 (by rw [hZ]) (by rw [hZ]) (by rw [hZ]) (by rw [hZ]))
          have HIZ := Aside0.mk CQ.out.own.inn
          have HYB := Aside0.mk CQ.out.box
          clear hZ CQ
          have d0 := (blk_cell HBX.out 0).trans rfl
          have d1 := (blk_cell HBX.out 1).trans rfl
          have d2 := (blk_cell HBX.out 2).trans rfl
          have d3 := (blk_cell HBX.out 3).trans rfl
          have x0_ := (blk_cell HYB.out 0).trans rfl
          have x1_ := (blk_cell HYB.out 1).trans rfl
          have x2_ := (blk_cell HYB.out 2).trans rfl
          have x3_ := (blk_cell HYB.out 3).trans rfl
          go_wp2_with fail
          refine (lfault_c Z _ HIZ.out).mono ?_
          rintro e w8_ ⟨rfl, hb_⟩
          replace HB := Aside0.mk (bt HB.out hb_)
          replace HBX := Aside0.mk (blk_below HBX.out hb_)
          replace HYB := Aside0.mk (blk_below HYB.out hb_)
          replace HIZ := Aside0.mk (HIZ.out.below hb_)
          clear x0_ x1_ x2_ x3_
          clear d0 d1 d2 d3
          clear hb_
          have d0 := (blk_cell HBX.out 0).trans rfl
          have d1 := (blk_cell HBX.out 1).trans rfl
          have d2 := (blk_cell HBX.out 2).trans rfl
          have d3 := (blk_cell HBX.out 3).trans rfl
          have x0_ := (blk_cell HYB.out 0).trans rfl
          have x1_ := (blk_cell HYB.out 1).trans rfl
          have x2_ := (blk_cell HYB.out 2).trans rfl
          have x3_ := (blk_cell HYB.out 3).trans rfl
          obtain ⟨yc, hyc⟩ : ∃ yc, Z.lv.check = yc := ⟨_, rfl⟩
          have HYC := Aside0.mk hyc
          rw [hyc]
          clear hyc
          by_cases hz : yc = 0
          rotate_left
          ·
           have t1 : (yc != 0) = true := by simpa using hz
           clear hz
           go_wp2_with fail
           refine (awake_c _).mono ?_
           rintro e w9_ ⟨rfl, hb_⟩
           replace HB := Aside0.mk (bt HB.out hb_)
           replace HBX := Aside0.mk (blk_below HBX.out hb_)
           replace HYB := Aside0.mk (blk_below HYB.out hb_)
           replace HIZ := Aside0.mk (HIZ.out.below hb_)
           clear x0_ x1_ x2_ x3_
           clear d0 d1 d2 d3
           clear hb_
           go_wp2_with fail
           go_ret
           exact ⟨ret_bool rfl, HB.out⟩
          subst hz
          go_wp2_with fail
          refine (alike_c a0 Z pa pb _ (HI.out.below HB.out) HIZ.out HF.out HLW.out.1 (HLW.out.2 HYC.out)).mono ?_
          rintro e w9_ ⟨rfl, hb_⟩
          replace HB := Aside0.mk (bt HB.out hb_)
          replace HBX := Aside0.mk (blk_below HBX.out hb_)
          replace HYB := Aside0.mk (blk_below HYB.out hb_)
          replace HIZ := Aside0.mk (HIZ.out.below hb_)
          clear x0_ x1_ x2_ x3_
          clear d0 d1 d2 d3
          clear hb_
          have d0 := (blk_cell HBX.out 0).trans rfl
          have d1 := (blk_cell HBX.out 1).trans rfl
          have d2 := (blk_cell HBX.out 2).trans rfl
          have d3 := (blk_cell HBX.out 3).trans rfl
          have x0_ := (blk_cell HYB.out 0).trans rfl
          have x1_ := (blk_cell HYB.out 1).trans rfl
          have x2_ := (blk_cell HYB.out 2).trans rfl
          have x3_ := (blk_cell HYB.out 3).trans rfl
          go_wp2_with fail
          refine (awake_c _).mono ?_
          rintro e w10_ ⟨rfl, hb_⟩
          replace HB := Aside0.mk (bt HB.out hb_)
          replace HBX := Aside0.mk (blk_below HBX.out hb_)
          replace HYB := Aside0.mk (blk_below HYB.out hb_)
          replace HIZ := Aside0.mk (HIZ.out.below hb_)
          clear x0_ x1_ x2_ x3_
          clear d0 d1 d2 d3
          clear hb_
          go_wp2_with fail
          go_ret
          exact ⟨ret_bool rfl, HB.out⟩
         ·
          obtain ⟨q, hA3, hqb, hcl⟩ := CQ.out.own.hd3 (by omega)
          have HN := Aside0.mk (show w.heap.size ≠ q ∧ gx ≠ q from by obtain ⟨cells, hc⟩ := hcl; exact ⟨blk_ne HBX.out hc (by decide), blk_ne CQ.out.box hc (by decide)⟩)
          have HQB := Aside0.mk hqb
          have HA3 := Aside0.mk hA3
          rw [hA3] at x3_ HYB
          clear hA3 hqb hcl
          obtain ⟨ad, ea, z0, z1, z2⟩ := at_T50 HI.out.r3 i i0 hlt
          have HEA := Aside0.mk ea
          clear ea z2
          have hsv : Y.su.getD i.toNat z50 = rd_T50 a0.su i := by rw [hY]; exact mix_get _ _ _ _ (by omega)
          have hmx : ∀ V : S50, V = m50 true (rd_T50 a0.su i) → Y.su.set i.toNat V = mixL (m50 true) (i.toNat + 1) a0.su := fun V hV => by rw [hY, hV]; exact mix_set _ _ _ z50 (by omega)
          have HMX := Aside0.mk hmx
          have HOW0 := Aside0.mk (show Ow { Y with su := Y.su.set i.toNat (rd_T50 a0.su i) } (fun _ => True) w.heap.size W2 from by rw [set_rd_T50 i0 (by omega) hsv]; exact CQ.out.own)
          clear hsv hmx
          generalize hsv_ : rd_T50 a0.su i = sv at *
          clear hsv_
          have HZ0 := Aside0.mk z0
          have HZ1 := Aside0.mk z1
          have HY := Aside0.mk hY
          clear z0 z1 hY
          have hix : i < (Y.su.length : Int) := by omega
          go_upto_region 27 with (fail)
          clear x0_ x1_ x2_ x3_
          clear d0 d1 d2 d3
          refine start_ (n := 24) (S := fun w' => True) (ds := []) #[false, false, false, false, false, false, false, false, false, false, false, false, false, false, false, false, false, false, false, false, false, false, false, false] (by kernel_rfl) rfl rfl trivial (fun hHeld => ?_)
          refine with_tabW moved6.tab27 moved6.bits27 (fun HT_ HW_ => ?_)
          have HBW := Aside0.mk (below_drew HB.out)
          have BX := Aside0.mk (show W2.drew.heap[w.heap.size]? = some (.cells #[.slice a0.A0 a0.st.length a0.c0, .slice a0.A1 a0.ri.length a0.c1, .slice a0.A2 a0.ca.length a0.c2, .slice a0.A3 a0.su.length a0.c3] 27 (0, 0)) ∧ W2.drew.heap[gx]? = some (.cells #[.slice Y.A0 Y.st.length Y.c0, .slice Y.A1 Y.ri.length Y.c1, .slice Y.A2 Y.ca.length Y.c2, .slice (some ⟨q, 0, none⟩) a0.su.length Y.c3] 27 (0, 0)) from ⟨HBX.out, HYB.out⟩)
          have O0 := Aside0.mk (HOW0.out.below (below_drew (Below.refl _ _)))
          generalize W2.drew = wd_ at *
          refine inv_at [0, 1, 2, 3, 4, 5, 6, 7, 8, 9, 10, 11, 12, 13, 14, 15, 16, 17, 18, 19, 20, 21, 22, 23] (fun a0_ b a w' => a = putSel a0_ b [(0, 154, .pointer (some ⟨gx, 3, none⟩)), (1, 155, .slice (some ⟨q, 0, none⟩) a0.su.length Y.c3), (2, 156, .int .i64 i), (3, 157, .pointer (some ⟨gx, 3, none⟩)), (4, 158, .slice (some ⟨q, 0, none⟩) a0.su.length Y.c3), (5, 159, .int .i64 i), (6, 160, .pointer (some ⟨w.heap.size, 3, none⟩)), (7, 161, .slice (some ad) a0.su.length a0.c3), (8, 162, .int .i64 i), (9, 163, .pointer (some (ad.add (i.toNat * 3)))), (10, 164, .pointer (some ⟨(ad.add (i.toNat * 3)).block, (ad.add (i.toNat * 3)).off + 1, none⟩)), (11, 165, .int .i64 sv.f1), (12, 166, .pointer (some ⟨w.heap.size, 3, none⟩)), (13, 167, .slice (some ad) a0.su.length a0.c3), (14, 168, .int .i64 i), (15, 169, .pointer (some (ad.add (i.toNat * 3)))), (16, 170, .pointer (some (ad.add (i.toNat * 3)))), (17, 171, .int .i64 sv.f0), (18, 172, .pointer (some ⟨q, i.toNat * 3, none⟩)), (19, 173, .pointer (some ⟨q, i.toNat * 3, none⟩)), (21, 174, .pointer (some ⟨q, i.toNat * 3, none⟩)), (22, 175, .pointer (some ⟨q, i.toNat * 3 + 1, none⟩))] ∧ (Below w.heap.size w w') ∧ (w'.heap[w.heap.size]? = some (.cells #[.slice a0.A0 a0.st.length a0.c0, .slice a0.A1 a0.ri.length a0.c1, .slice a0.A2 a0.ca.length a0.c2, .slice a0.A3 a0.su.length a0.c3] 27 (0, 0)) ∧ w'.heap[gx]? = some (.cells #[.slice Y.A0 Y.st.length Y.c0, .slice Y.A1 Y.ri.length Y.c1, .slice Y.A2 Y.ca.length Y.c2, .slice (some ⟨q, 0, none⟩) a0.su.length Y.c3] 27 (0, 0))) ∧ (b 20 = false → Ow { Y with su := Y.su.set i.toNat (⟨sv.f0, sv.f1, sv.f2⟩ : S50) } (fun _ => True) w.heap.size w') ∧ (b 20 = true → b 23 = false → Ow { Y with su := Y.su.set i.toNat (⟨sv.f1, sv.f1, sv.f2⟩ : S50) } (fun _ => True) w.heap.size w') ∧ (b 23 = true → Ow { Y with su := Y.su.set i.toNat (⟨sv.f1, sv.f0, sv.f2⟩ : S50) } (fun _ => True) w.heap.size w')) HT_.out HW_.out (by kernel_rfl) (by kernel_rfl) ?_ ?_ ?_
          · exact ⟨by simp only [putSel, Bool.false_eq_true, if_false], HBW.out, BX.out, fun _ => O0.out, fun h_ => absurd h_ (by decide), fun h_ => absurd h_ (by decide)⟩
          ·
           skip
           clear BX HBW O0
           refine steps_cons ?_ ?_
           ·
            rintro b a w' ⟨ha, Q_HBW, Q_BX, Q_O0, Q_O1, Q_O2⟩ hb_ hon hoff
            refine ⟨_, rfl, fun K hK => ?_⟩
            have e13 : a.tmps[13]? = some (.pointer (some ⟨gx, 0, none⟩)) := by rw [ha]; exact (putSel_off rfl).trans rfl
            replace ha := Aside0.mk ha
            have HBW := Aside0.mk Q_HBW
            have BX := Aside0.mk Q_BX
            have O0 := Aside0.mk (Q_O0 (hoff 20 (by kernel_rfl)))
            refine value_ (w1 := w') (v := .pointer (some ⟨gx, 3, none⟩)) (by rfl) rfl ?_ ?_
            ·
             go_simp
             (try simp only [i64_w])
             try rfl
            refine hK.out _ _ ⟨(by rw [ha.out]; exact putSel_upk 0 hb_ rfl rfl rfl), Q_HBW, Q_BX, Q_O0, fun h0_ _ => absurd ((hoff 20 (by kernel_rfl)).symm.trans h0_) (by decide), fun h0_ => absurd ((hoff 23 (by kernel_rfl)).symm.trans h0_) (by decide)⟩
           refine steps_cons ?_ ?_
           ·
            rintro b a w' ⟨ha, Q_HBW, Q_BX, Q_O0, Q_O1, Q_O2⟩ hb_ hon hoff
            refine ⟨_, rfl, fun K hK => ?_⟩
            have e154 : a.tmps[154]? = some (.pointer (some ⟨gx, 3, none⟩)) := by rw [ha]; exact putSel_on (e := (0, 154, .pointer (some ⟨gx, 3, none⟩))) 0 rfl rfl (hon 0 (by kernel_rfl)) rfl
            replace ha := Aside0.mk ha
            have HBW := Aside0.mk Q_HBW
            have BX := Aside0.mk Q_BX
            have O0 := Aside0.mk (Q_O0 (hoff 20 (by kernel_rfl)))
            have k0_ := (blk_cell BX.out.2 3).trans rfl
            refine value_ (w1 := w') (v := .slice (some ⟨q, 0, none⟩) a0.su.length Y.c3) (by rfl) rfl ?_ ?_
            ·
             go_simp
             (try simp only [i64_w])
             try rfl
            refine hK.out _ _ ⟨(by rw [ha.out]; exact putSel_upk 1 hb_ rfl rfl rfl), Q_HBW, Q_BX, Q_O0, fun h0_ _ => absurd ((hoff 20 (by kernel_rfl)).symm.trans h0_) (by decide), fun h0_ => absurd ((hoff 23 (by kernel_rfl)).symm.trans h0_) (by decide)⟩
           refine steps_cons ?_ ?_
           ·
            rintro b a w' ⟨ha, Q_HBW, Q_BX, Q_O0, Q_O1, Q_O2⟩ hb_ hon hoff
            refine ⟨_, rfl, fun K hK => ?_⟩
            have e21 : a.tmps[21]? = some (.int .i64 i) := by rw [ha]; exact (putSel_off rfl).trans rfl
            replace ha := Aside0.mk ha
            have HBW := Aside0.mk Q_HBW
            have BX := Aside0.mk Q_BX
            have O0 := Aside0.mk (Q_O0 (hoff 20 (by kernel_rfl)))
            refine value_ (w1 := w') (v := .int .i64 i) (by rfl) rfl ?_ ?_
            ·
             go_simp
             (try simp only [i64_w])
             try rfl
            refine hK.out _ _ ⟨(by rw [ha.out]; exact putSel_upk 2 hb_ rfl rfl rfl), Q_HBW, Q_BX, Q_O0, fun h0_ _ => absurd ((hoff 20 (by kernel_rfl)).symm.trans h0_) (by decide), fun h0_ => absurd ((hoff 23 (by kernel_rfl)).symm.trans h0_) (by decide)⟩
           refine steps_cons ?_ ?_
           ·
            rintro b a w' ⟨ha, Q_HBW, Q_BX, Q_O0, Q_O1, Q_O2⟩ hb_ hon hoff
            refine ⟨_, rfl, fun K hK => ?_⟩
            have e13 : a.tmps[13]? = some (.pointer (some ⟨gx, 0, none⟩)) := by rw [ha]; exact (putSel_off rfl).trans rfl
            replace ha := Aside0.mk ha
            have HBW := Aside0.mk Q_HBW
            have BX := Aside0.mk Q_BX
            refine value_ (w1 := w') (v := .pointer (some ⟨gx, 3, none⟩)) (by rfl) rfl ?_ ?_
            ·
             go_simp
             (try simp only [i64_w])
             try rfl
            refine hK.out _ _ ⟨(by rw [ha.out]; exact putSel_upk 3 hb_ rfl rfl rfl), Q_HBW, Q_BX, Q_O0, Q_O1, fun h0_ => absurd ((hoff 23 (by kernel_rfl)).symm.trans h0_) (by decide)⟩
           refine steps_cons ?_ ?_
           ·
            rintro b a w' ⟨ha, Q_HBW, Q_BX, Q_O0, Q_O1, Q_O2⟩ hb_ hon hoff
            refine ⟨_, rfl, fun K hK => ?_⟩
            have e157 : a.tmps[157]? = some (.pointer (some ⟨gx, 3, none⟩)) := by rw [ha]; exact putSel_on (e := (3, 157, .pointer (some ⟨gx, 3, none⟩))) 3 rfl rfl (hon 3 (by kernel_rfl)) rfl
            replace ha := Aside0.mk ha
            have HBW := Aside0.mk Q_HBW
            have BX := Aside0.mk Q_BX
            have k0_ := (blk_cell BX.out.2 3).trans rfl
            refine value_ (w1 := w') (v := .slice (some ⟨q, 0, none⟩) a0.su.length Y.c3) (by rfl) rfl ?_ ?_
            ·
             go_simp
             (try simp only [i64_w])
             try rfl
            refine hK.out _ _ ⟨(by rw [ha.out]; exact putSel_upk 4 hb_ rfl rfl rfl), Q_HBW, Q_BX, Q_O0, Q_O1, fun h0_ => absurd ((hoff 23 (by kernel_rfl)).symm.trans h0_) (by decide)⟩
           refine steps_cons ?_ ?_
           ·
            rintro b a w' ⟨ha, Q_HBW, Q_BX, Q_O0, Q_O1, Q_O2⟩ hb_ hon hoff
            refine ⟨_, rfl, fun K hK => ?_⟩
            have e21 : a.tmps[21]? = some (.int .i64 i) := by rw [ha]; exact (putSel_off rfl).trans rfl
            replace ha := Aside0.mk ha
            have HBW := Aside0.mk Q_HBW
            have BX := Aside0.mk Q_BX
            refine value_ (w1 := w') (v := .int .i64 i) (by rfl) rfl ?_ ?_
            ·
             go_simp
             (try simp only [i64_w])
             try rfl
            refine hK.out _ _ ⟨(by rw [ha.out]; exact putSel_upk 5 hb_ rfl rfl rfl), Q_HBW, Q_BX, Q_O0, Q_O1, fun h0_ => absurd ((hoff 23 (by kernel_rfl)).symm.trans h0_) (by decide)⟩
           refine steps_cons ?_ ?_
           ·
            rintro b a w' ⟨ha, Q_HBW, Q_BX, Q_O0, Q_O1, Q_O2⟩ hb_ hon hoff
            refine ⟨_, rfl, fun K hK => ?_⟩
            have e5 : a.tmps[5]? = some (.pointer (some ⟨w.heap.size, 0, none⟩)) := by rw [ha]; exact (putSel_off rfl).trans rfl
            replace ha := Aside0.mk ha
            have HBW := Aside0.mk Q_HBW
            have BX := Aside0.mk Q_BX
            have O0 := Aside0.mk (Q_O0 (hoff 20 (by kernel_rfl)))
            refine value_ (w1 := w') (v := .pointer (some ⟨w.heap.size, 3, none⟩)) (by rfl) rfl ?_ ?_
            ·
             go_simp
             (try simp only [i64_w])
             try rfl
            refine hK.out _ _ ⟨(by rw [ha.out]; exact putSel_upk 6 hb_ rfl rfl rfl), Q_HBW, Q_BX, Q_O0, fun h0_ _ => absurd ((hoff 20 (by kernel_rfl)).symm.trans h0_) (by decide), fun h0_ => absurd ((hoff 23 (by kernel_rfl)).symm.trans h0_) (by decide)⟩
           refine steps_cons ?_ ?_
           ·
            rintro b a w' ⟨ha, Q_HBW, Q_BX, Q_O0, Q_O1, Q_O2⟩ hb_ hon hoff
            refine ⟨_, rfl, fun K hK => ?_⟩
            have e160 : a.tmps[160]? = some (.pointer (some ⟨w.heap.size, 3, none⟩)) := by rw [ha]; exact putSel_on (e := (6, 160, .pointer (some ⟨w.heap.size, 3, none⟩))) 6 rfl rfl (hon 6 (by kernel_rfl)) rfl
            replace ha := Aside0.mk ha
            have HBW := Aside0.mk Q_HBW
            have BX := Aside0.mk Q_BX
            have O0 := Aside0.mk (Q_O0 (hoff 20 (by kernel_rfl)))
            have k0_ := (blk_cell BX.out.1 3).trans rfl
            rw [HEA.out] at k0_
            refine value_ (w1 := w') (v := .slice (some ad) a0.su.length a0.c3) (by rfl) rfl ?_ ?_
            ·
             go_simp
             (try simp only [i64_w])
             try rfl
            refine hK.out _ _ ⟨(by rw [ha.out]; exact putSel_upk 7 hb_ rfl rfl rfl), Q_HBW, Q_BX, Q_O0, fun h0_ _ => absurd ((hoff 20 (by kernel_rfl)).symm.trans h0_) (by decide), fun h0_ => absurd ((hoff 23 (by kernel_rfl)).symm.trans h0_) (by decide)⟩
           refine steps_cons ?_ ?_
           ·
            rintro b a w' ⟨ha, Q_HBW, Q_BX, Q_O0, Q_O1, Q_O2⟩ hb_ hon hoff
            refine ⟨_, rfl, fun K hK => ?_⟩
            have e21 : a.tmps[21]? = some (.int .i64 i) := by rw [ha]; exact (putSel_off rfl).trans rfl
            replace ha := Aside0.mk ha
            have HBW := Aside0.mk Q_HBW
            have BX := Aside0.mk Q_BX
            have O0 := Aside0.mk (Q_O0 (hoff 20 (by kernel_rfl)))
            refine value_ (w1 := w') (v := .int .i64 i) (by rfl) rfl ?_ ?_
            ·
             go_simp
             (try simp only [i64_w])
             try rfl
            refine hK.out _ _ ⟨(by rw [ha.out]; exact putSel_upk 8 hb_ rfl rfl rfl), Q_HBW, Q_BX, Q_O0, fun h0_ _ => absurd ((hoff 20 (by kernel_rfl)).symm.trans h0_) (by decide), fun h0_ => absurd ((hoff 23 (by kernel_rfl)).symm.trans h0_) (by decide)⟩
           refine steps_cons ?_ ?_
           ·
            rintro b a w' ⟨ha, Q_HBW, Q_BX, Q_O0, Q_O1, Q_O2⟩ hb_ hon hoff
            refine ⟨_, rfl, fun K hK => ?_⟩
            have e161 : a.tmps[161]? = some (.slice (some ad) a0.su.length a0.c3) := by rw [ha]; exact putSel_on (e := (7, 161, .slice (some ad) a0.su.length a0.c3)) 7 rfl rfl (hon 7 (by kernel_rfl)) rfl
            have e162 : a.tmps[162]? = some (.int .i64 i) := by rw [ha]; exact putSel_on (e := (8, 162, .int .i64 i)) 8 rfl rfl (hon 8 (by kernel_rfl)) rfl
            replace ha := Aside0.mk ha
            have HBW := Aside0.mk Q_HBW
            have BX := Aside0.mk Q_BX
            have O0 := Aside0.mk (Q_O0 (hoff 20 (by kernel_rfl)))
            have k1_ : (0 : Int) ≤ i := i0
            have k2_ := hlt
            refine value_ (w1 := w') (v := .pointer (some (ad.add (i.toNat * 3)))) (by rfl) rfl ?_ ?_
            ·
             go_simp
             (try simp only [i64_w])
             try rfl
            refine hK.out _ _ ⟨(by rw [ha.out]; exact putSel_upk 9 hb_ rfl rfl rfl), Q_HBW, Q_BX, Q_O0, fun h0_ _ => absurd ((hoff 20 (by kernel_rfl)).symm.trans h0_) (by decide), fun h0_ => absurd ((hoff 23 (by kernel_rfl)).symm.trans h0_) (by decide)⟩
           refine steps_cons ?_ ?_
           ·
            rintro b a w' ⟨ha, Q_HBW, Q_BX, Q_O0, Q_O1, Q_O2⟩ hb_ hon hoff
            refine ⟨_, rfl, fun K hK => ?_⟩
            have e163 : a.tmps[163]? = some (.pointer (some (ad.add (i.toNat * 3)))) := by rw [ha]; exact putSel_on (e := (9, 163, .pointer (some (ad.add (i.toNat * 3))))) 9 rfl rfl (hon 9 (by kernel_rfl)) rfl
            replace ha := Aside0.mk ha
            have HBW := Aside0.mk Q_HBW
            have BX := Aside0.mk Q_BX
            have O0 := Aside0.mk (Q_O0 (hoff 20 (by kernel_rfl)))
            refine value_ (w1 := w') (v := .pointer (some ⟨(ad.add (i.toNat * 3)).block, (ad.add (i.toNat * 3)).off + 1, none⟩)) (by rfl) rfl ?_ ?_
            ·
             go_simp
             (try simp only [i64_w])
             try rfl
            refine hK.out _ _ ⟨(by rw [ha.out]; exact putSel_upk 10 hb_ rfl rfl rfl), Q_HBW, Q_BX, Q_O0, fun h0_ _ => absurd ((hoff 20 (by kernel_rfl)).symm.trans h0_) (by decide), fun h0_ => absurd ((hoff 23 (by kernel_rfl)).symm.trans h0_) (by decide)⟩
           refine steps_cons ?_ ?_
           ·
            rintro b a w' ⟨ha, Q_HBW, Q_BX, Q_O0, Q_O1, Q_O2⟩ hb_ hon hoff
            refine ⟨_, rfl, fun K hK => ?_⟩
            have e164 : a.tmps[164]? = some (.pointer (some ⟨(ad.add (i.toNat * 3)).block, (ad.add (i.toNat * 3)).off + 1, none⟩)) := by rw [ha]; exact putSel_on (e := (10, 164, .pointer (some ⟨(ad.add (i.toNat * 3)).block, (ad.add (i.toNat * 3)).off + 1, none⟩))) 10 rfl rfl (hon 10 (by kernel_rfl)) rfl
            replace ha := Aside0.mk ha
            have HBW := Aside0.mk Q_HBW
            have BX := Aside0.mk Q_BX
            have O0 := Aside0.mk (Q_O0 (hoff 20 (by kernel_rfl)))
            have k0_ := cb HBW.out HZ1.out
            refine value_ (w1 := w') (v := .int .i64 sv.f1) (by rfl) rfl ?_ ?_
            ·
             go_simp
             (try simp only [i64_w])
             try rfl
            refine hK.out _ _ ⟨(by rw [ha.out]; exact putSel_upk 11 hb_ rfl rfl rfl), Q_HBW, Q_BX, Q_O0, fun h0_ _ => absurd ((hoff 20 (by kernel_rfl)).symm.trans h0_) (by decide), fun h0_ => absurd ((hoff 23 (by kernel_rfl)).symm.trans h0_) (by decide)⟩
           refine steps_cons ?_ ?_
           ·
            rintro b a w' ⟨ha, Q_HBW, Q_BX, Q_O0, Q_O1, Q_O2⟩ hb_ hon hoff
            refine ⟨_, rfl, fun K hK => ?_⟩
            have e5 : a.tmps[5]? = some (.pointer (some ⟨w.heap.size, 0, none⟩)) := by rw [ha]; exact (putSel_off rfl).trans rfl
            replace ha := Aside0.mk ha
            have HBW := Aside0.mk Q_HBW
            have BX := Aside0.mk Q_BX
            have O0 := Aside0.mk (Q_O0 (hoff 20 (by kernel_rfl)))
            refine value_ (w1 := w') (v := .pointer (some ⟨w.heap.size, 3, none⟩)) (by rfl) rfl ?_ ?_
            ·
             go_simp
             (try simp only [i64_w])
             try rfl
            refine hK.out _ _ ⟨(by rw [ha.out]; exact putSel_upk 12 hb_ rfl rfl rfl), Q_HBW, Q_BX, Q_O0, fun h0_ _ => absurd ((hoff 20 (by kernel_rfl)).symm.trans h0_) (by decide), fun h0_ => absurd ((hoff 23 (by kernel_rfl)).symm.trans h0_) (by decide)⟩
           refine steps_cons ?_ ?_
           ·
            rintro b a w' ⟨ha, Q_HBW, Q_BX, Q_O0, Q_O1, Q_O2⟩ hb_ hon hoff
            refine ⟨_, rfl, fun K hK => ?_⟩
            have e166 : a.tmps[166]? = some (.pointer (some ⟨w.heap.size, 3, none⟩)) := by rw [ha]; exact putSel_on (e := (12, 166, .pointer (some ⟨w.heap.size, 3, none⟩))) 12 rfl rfl (hon 12 (by kernel_rfl)) rfl
            replace ha := Aside0.mk ha
            have HBW := Aside0.mk Q_HBW
            have BX := Aside0.mk Q_BX
            have O0 := Aside0.mk (Q_O0 (hoff 20 (by kernel_rfl)))
            have k0_ := (blk_cell BX.out.1 3).trans rfl
            rw [HEA.out] at k0_
            refine value_ (w1 := w') (v := .slice (some ad) a0.su.length a0.c3) (by rfl) rfl ?_ ?_
            ·
             go_simp
             (try simp only [i64_w])
             try rfl
            refine hK.out _ _ ⟨(by rw [ha.out]; exact putSel_upk 13 hb_ rfl rfl rfl), Q_HBW, Q_BX, Q_O0, fun h0_ _ => absurd ((hoff 20 (by kernel_rfl)).symm.trans h0_) (by decide), fun h0_ => absurd ((hoff 23 (by kernel_rfl)).symm.trans h0_) (by decide)⟩
           refine steps_cons ?_ ?_
           ·
            rintro b a w' ⟨ha, Q_HBW, Q_BX, Q_O0, Q_O1, Q_O2⟩ hb_ hon hoff
            refine ⟨_, rfl, fun K hK => ?_⟩
            have e21 : a.tmps[21]? = some (.int .i64 i) := by rw [ha]; exact (putSel_off rfl).trans rfl
            replace ha := Aside0.mk ha
            have HBW := Aside0.mk Q_HBW
            have BX := Aside0.mk Q_BX
            have O0 := Aside0.mk (Q_O0 (hoff 20 (by kernel_rfl)))
            refine value_ (w1 := w') (v := .int .i64 i) (by rfl) rfl ?_ ?_
            ·
             go_simp
             (try simp only [i64_w])
             try rfl
            refine hK.out _ _ ⟨(by rw [ha.out]; exact putSel_upk 14 hb_ rfl rfl rfl), Q_HBW, Q_BX, Q_O0, fun h0_ _ => absurd ((hoff 20 (by kernel_rfl)).symm.trans h0_) (by decide), fun h0_ => absurd ((hoff 23 (by kernel_rfl)).symm.trans h0_) (by decide)⟩
           refine steps_cons ?_ ?_
           ·
            rintro b a w' ⟨ha, Q_HBW, Q_BX, Q_O0, Q_O1, Q_O2⟩ hb_ hon hoff
            refine ⟨_, rfl, fun K hK => ?_⟩
            have e167 : a.tmps[167]? = some (.slice (some ad) a0.su.length a0.c3) := by rw [ha]; exact putSel_on (e := (13, 167, .slice (some ad) a0.su.length a0.c3)) 13 rfl rfl (hon 13 (by kernel_rfl)) rfl
            have e168 : a.tmps[168]? = some (.int .i64 i) := by rw [ha]; exact putSel_on (e := (14, 168, .int .i64 i)) 14 rfl rfl (hon 14 (by kernel_rfl)) rfl
            replace ha := Aside0.mk ha
            have HBW := Aside0.mk Q_HBW
            have BX := Aside0.mk Q_BX
            have O0 := Aside0.mk (Q_O0 (hoff 20 (by kernel_rfl)))
            have k1_ : (0 : Int) ≤ i := i0
            have k2_ := hlt
            refine value_ (w1 := w') (v := .pointer (some (ad.add (i.toNat * 3)))) (by rfl) rfl ?_ ?_
            ·
             go_simp
             (try simp only [i64_w])
             try rfl
            refine hK.out _ _ ⟨(by rw [ha.out]; exact putSel_upk 15 hb_ rfl rfl rfl), Q_HBW, Q_BX, Q_O0, fun h0_ _ => absurd ((hoff 20 (by kernel_rfl)).symm.trans h0_) (by decide), fun h0_ => absurd ((hoff 23 (by kernel_rfl)).symm.trans h0_) (by decide)⟩
           refine steps_cons ?_ ?_
           ·
            rintro b a w' ⟨ha, Q_HBW, Q_BX, Q_O0, Q_O1, Q_O2⟩ hb_ hon hoff
            refine ⟨_, rfl, fun K hK => ?_⟩
            have e169 : a.tmps[169]? = some (.pointer (some (ad.add (i.toNat * 3)))) := by rw [ha]; exact putSel_on (e := (15, 169, .pointer (some (ad.add (i.toNat * 3))))) 15 rfl rfl (hon 15 (by kernel_rfl)) rfl
            replace ha := Aside0.mk ha
            have HBW := Aside0.mk Q_HBW
            have BX := Aside0.mk Q_BX
            have O0 := Aside0.mk (Q_O0 (hoff 20 (by kernel_rfl)))
            refine value_ (w1 := w') (v := .pointer (some (ad.add (i.toNat * 3)))) (by rfl) rfl ?_ ?_
            ·
             go_simp
             (try simp only [i64_w])
             try rfl
            refine hK.out _ _ ⟨(by rw [ha.out]; exact putSel_upk 16 hb_ rfl rfl rfl), Q_HBW, Q_BX, Q_O0, fun h0_ _ => absurd ((hoff 20 (by kernel_rfl)).symm.trans h0_) (by decide), fun h0_ => absurd ((hoff 23 (by kernel_rfl)).symm.trans h0_) (by decide)⟩
           refine steps_cons ?_ ?_
           ·
            rintro b a w' ⟨ha, Q_HBW, Q_BX, Q_O0, Q_O1, Q_O2⟩ hb_ hon hoff
            refine ⟨_, rfl, fun K hK => ?_⟩
            have e170 : a.tmps[170]? = some (.pointer (some (ad.add (i.toNat * 3)))) := by rw [ha]; exact putSel_on (e := (16, 170, .pointer (some (ad.add (i.toNat * 3))))) 16 rfl rfl (hon 16 (by kernel_rfl)) rfl
            replace ha := Aside0.mk ha
            have HBW := Aside0.mk Q_HBW
            have BX := Aside0.mk Q_BX
            have O0 := Aside0.mk (Q_O0 (hoff 20 (by kernel_rfl)))
            have k0_ := cb HBW.out HZ0.out
            refine value_ (w1 := w') (v := .int .i64 sv.f0) (by rfl) rfl ?_ ?_
            ·
             go_simp
             (try simp only [i64_w])
             try rfl
            refine hK.out _ _ ⟨(by rw [ha.out]; exact putSel_upk 17 hb_ rfl rfl rfl), Q_HBW, Q_BX, Q_O0, fun h0_ _ => absurd ((hoff 20 (by kernel_rfl)).symm.trans h0_) (by decide), fun h0_ => absurd ((hoff 23 (by kernel_rfl)).symm.trans h0_) (by decide)⟩
           refine steps_cons ?_ ?_
           ·
            rintro b a w' ⟨ha, Q_HBW, Q_BX, Q_O0, Q_O1, Q_O2⟩ hb_ hon hoff
            refine ⟨_, rfl, fun K hK => ?_⟩
            have e155 : a.tmps[155]? = some (.slice (some ⟨q, 0, none⟩) a0.su.length Y.c3) := by rw [ha]; exact putSel_on (e := (1, 155, .slice (some ⟨q, 0, none⟩) a0.su.length Y.c3)) 1 rfl rfl (hon 1 (by kernel_rfl)) rfl
            have e156 : a.tmps[156]? = some (.int .i64 i) := by rw [ha]; exact putSel_on (e := (2, 156, .int .i64 i)) 2 rfl rfl (hon 2 (by kernel_rfl)) rfl
            replace ha := Aside0.mk ha
            have HBW := Aside0.mk Q_HBW
            have BX := Aside0.mk Q_BX
            have O0 := Aside0.mk (Q_O0 (hoff 20 (by kernel_rfl)))
            have k1_ : (0 : Int) ≤ i := i0
            have k2_ := hlt
            refine value_ (w1 := w') (v := .pointer (some ⟨q, i.toNat * 3, none⟩)) (by rfl) rfl ?_ ?_
            ·
             go_simp
             (try simp only [i64_w])
             try rfl
            refine hK.out _ _ ⟨(by rw [ha.out]; exact putSel_upk 18 hb_ rfl rfl rfl), Q_HBW, Q_BX, Q_O0, fun h0_ _ => absurd ((hoff 20 (by kernel_rfl)).symm.trans h0_) (by decide), fun h0_ => absurd ((hoff 23 (by kernel_rfl)).symm.trans h0_) (by decide)⟩
           refine steps_cons ?_ ?_
           ·
            rintro b a w' ⟨ha, Q_HBW, Q_BX, Q_O0, Q_O1, Q_O2⟩ hb_ hon hoff
            refine ⟨_, rfl, fun K hK => ?_⟩
            have e172 : a.tmps[172]? = some (.pointer (some ⟨q, i.toNat * 3, none⟩)) := by rw [ha]; exact putSel_on (e := (18, 172, .pointer (some ⟨q, i.toNat * 3, none⟩))) 18 rfl rfl (hon 18 (by kernel_rfl)) rfl
            replace ha := Aside0.mk ha
            have HBW := Aside0.mk Q_HBW
            have BX := Aside0.mk Q_BX
            have O0 := Aside0.mk (Q_O0 (hoff 20 (by kernel_rfl)))
            refine value_ (w1 := w') (v := .pointer (some ⟨q, i.toNat * 3, none⟩)) (by rfl) rfl ?_ ?_
            ·
             go_simp
             (try simp only [i64_w])
             try rfl
            refine hK.out _ _ ⟨(by rw [ha.out]; exact putSel_upk 19 hb_ rfl rfl rfl), Q_HBW, Q_BX, Q_O0, fun h0_ _ => absurd ((hoff 20 (by kernel_rfl)).symm.trans h0_) (by decide), fun h0_ => absurd ((hoff 23 (by kernel_rfl)).symm.trans h0_) (by decide)⟩
           refine steps_cons ?_ ?_
           ·
            rintro b a w' ⟨ha, Q_HBW, Q_BX, Q_O0, Q_O1, Q_O2⟩ hb_ hon hoff
            refine ⟨_, rfl, fun K hK => ?_⟩
            have e173 : a.tmps[173]? = some (.pointer (some ⟨q, i.toNat * 3, none⟩)) := by rw [ha]; exact putSel_on (e := (19, 173, .pointer (some ⟨q, i.toNat * 3, none⟩))) 19 rfl rfl (hon 19 (by kernel_rfl)) rfl
            have e165 : a.tmps[165]? = some (.int .i64 sv.f1) := by rw [ha]; exact putSel_on (e := (11, 165, .int .i64 sv.f1)) 11 rfl rfl (hon 11 (by kernel_rfl)) rfl
            replace ha := Aside0.mk ha
            have HBW := Aside0.mk Q_HBW
            have BX := Aside0.mk Q_BX
            have O0 := Aside0.mk (Q_O0 hb_)
            obtain ⟨⟨cells_, hcl_⟩, hcc_, _⟩ := O0.out.at50 HA3.out i0 hix
            have c0 := hcc_ 0 _ rfl
            have f0 := blk_frozen hcl_ (i.toNat * 3 + 0)
            clear hcl_ hcc_
            simp only [Nat.add_zero] at c0 f0
            refine skip_ (w1 := w'.setCell ⟨q, i.toNat * 3 + 0, none⟩ (.int .i64 (sv.f1))) (by rfl) rfl (by go_simp) ?_
            refine hK.out _ _ ⟨(by rw [ha.out]; exact putSel_none (v := undef) rfl), below_set HBW.out HQB.out, ⟨blk_far (p := ⟨q, i.toNat * 3 + 0, none⟩) BX.out.1 HN.out.1 _, blk_far (p := ⟨q, i.toNat * 3 + 0, none⟩) BX.out.2 HN.out.2 _⟩, fun h0_ => absurd ((up_self b 20).symm.trans h0_) (by decide), fun _ _ => (O0.out.at50 HA3.out i0 hix).2.2 0 _ (⟨sv.f1, sv.f1, sv.f2⟩ : S50) (by decide) rfl, fun h0_ => absurd ((hoff 23 (by kernel_rfl)).symm.trans h0_) (by decide)⟩
           refine steps_cons ?_ ?_
           ·
            rintro b a w' ⟨ha, Q_HBW, Q_BX, Q_O0, Q_O1, Q_O2⟩ hb_ hon hoff
            refine ⟨_, rfl, fun K hK => ?_⟩
            have e158 : a.tmps[158]? = some (.slice (some ⟨q, 0, none⟩) a0.su.length Y.c3) := by rw [ha]; exact putSel_on (e := (4, 158, .slice (some ⟨q, 0, none⟩) a0.su.length Y.c3)) 4 rfl rfl (hon 4 (by kernel_rfl)) rfl
            have e159 : a.tmps[159]? = some (.int .i64 i) := by rw [ha]; exact putSel_on (e := (5, 159, .int .i64 i)) 5 rfl rfl (hon 5 (by kernel_rfl)) rfl
            replace ha := Aside0.mk ha
            have HBW := Aside0.mk Q_HBW
            have BX := Aside0.mk Q_BX
            have O1 := Aside0.mk (Q_O1 (hon 20 (by kernel_rfl)) (hoff 23 (by kernel_rfl)))
            have k1_ : (0 : Int) ≤ i := i0
            have k2_ := hlt
            refine value_ (w1 := w') (v := .pointer (some ⟨q, i.toNat * 3, none⟩)) (by rfl) rfl ?_ ?_
            ·
             go_simp
             (try simp only [i64_w])
             try rfl
            refine hK.out _ _ ⟨(by rw [ha.out]; exact putSel_upk 20 hb_ rfl rfl rfl), Q_HBW, Q_BX, fun h0_ => absurd ((hon 20 (by kernel_rfl)).symm.trans h0_) (by decide), Q_O1, fun h0_ => absurd ((hoff 23 (by kernel_rfl)).symm.trans h0_) (by decide)⟩
           refine steps_cons ?_ ?_
           ·
            rintro b a w' ⟨ha, Q_HBW, Q_BX, Q_O0, Q_O1, Q_O2⟩ hb_ hon hoff
            refine ⟨_, rfl, fun K hK => ?_⟩
            have e174 : a.tmps[174]? = some (.pointer (some ⟨q, i.toNat * 3, none⟩)) := by rw [ha]; exact putSel_on (e := (21, 174, .pointer (some ⟨q, i.toNat * 3, none⟩))) 20 rfl rfl (hon 21 (by kernel_rfl)) rfl
            replace ha := Aside0.mk ha
            have HBW := Aside0.mk Q_HBW
            have BX := Aside0.mk Q_BX
            have O1 := Aside0.mk (Q_O1 (hon 20 (by kernel_rfl)) (hoff 23 (by kernel_rfl)))
            refine value_ (w1 := w') (v := .pointer (some ⟨q, i.toNat * 3 + 1, none⟩)) (by rfl) rfl ?_ ?_
            ·
             go_simp
             (try simp only [i64_w])
             try rfl
            refine hK.out _ _ ⟨(by rw [ha.out]; exact putSel_upk 21 hb_ rfl rfl rfl), Q_HBW, Q_BX, fun h0_ => absurd ((hon 20 (by kernel_rfl)).symm.trans h0_) (by decide), Q_O1, fun h0_ => absurd ((hoff 23 (by kernel_rfl)).symm.trans h0_) (by decide)⟩
           refine steps_cons ?_ ?_
           ·
            rintro b a w' ⟨ha, Q_HBW, Q_BX, Q_O0, Q_O1, Q_O2⟩ hb_ hon hoff
            refine ⟨_, rfl, fun K hK => ?_⟩
            have e175 : a.tmps[175]? = some (.pointer (some ⟨q, i.toNat * 3 + 1, none⟩)) := by rw [ha]; exact putSel_on (e := (22, 175, .pointer (some ⟨q, i.toNat * 3 + 1, none⟩))) 21 rfl rfl (hon 22 (by kernel_rfl)) rfl
            have e171 : a.tmps[171]? = some (.int .i64 sv.f0) := by rw [ha]; exact putSel_on (e := (17, 171, .int .i64 sv.f0)) 17 rfl rfl (hon 17 (by kernel_rfl)) rfl
            replace ha := Aside0.mk ha
            have HBW := Aside0.mk Q_HBW
            have BX := Aside0.mk Q_BX
            have O1 := Aside0.mk (Q_O1 (hon 20 (by kernel_rfl)) hb_)
            obtain ⟨⟨cells_, hcl_⟩, hcc_, _⟩ := O1.out.at50 HA3.out i0 hix
            have c0 := hcc_ 1 _ rfl
            have f0 := blk_frozen hcl_ (i.toNat * 3 + 1)
            clear hcl_ hcc_
            refine skip_ (w1 := w'.setCell ⟨q, i.toNat * 3 + 1, none⟩ (.int .i64 (sv.f0))) (by rfl) rfl (by go_simp) ?_
            refine hK.out _ _ ⟨(by rw [ha.out]; exact putSel_none (v := undef) rfl), below_set HBW.out HQB.out, ⟨blk_far (p := ⟨q, i.toNat * 3 + 1, none⟩) BX.out.1 HN.out.1 _, blk_far (p := ⟨q, i.toNat * 3 + 1, none⟩) BX.out.2 HN.out.2 _⟩, fun h0_ => absurd ((hon 20 (by kernel_rfl)).symm.trans h0_) (by decide), fun _ h1_ => absurd ((up_self b 23).symm.trans h1_) (by decide), fun _ => (O1.out.at50 HA3.out i0 hix).2.2 1 _ (⟨sv.f1, sv.f0, sv.f2⟩ : S50) (by decide) rfl⟩
           exact steps_nil
          ·
           rintro b a w' hall ⟨ha, Q_HBW, Q_BX, Q_O0, Q_O1, Q_O2⟩
           clear BX HBW O0
           have hb0_ := hall 0 (by kernel_rfl)
           have hb1_ := hall 1 (by kernel_rfl)
           have hb2_ := hall 2 (by kernel_rfl)
           have hb3_ := hall 3 (by kernel_rfl)
           have hb4_ := hall 4 (by kernel_rfl)
           have hb5_ := hall 5 (by kernel_rfl)
           have hb6_ := hall 6 (by kernel_rfl)
           have hb7_ := hall 7 (by kernel_rfl)
           have hb8_ := hall 8 (by kernel_rfl)
           have hb9_ := hall 9 (by kernel_rfl)
           have hb10_ := hall 10 (by kernel_rfl)
           have hb11_ := hall 11 (by kernel_rfl)
           have hb12_ := hall 12 (by kernel_rfl)
           have hb13_ := hall 13 (by kernel_rfl)
           have hb14_ := hall 14 (by kernel_rfl)
           have hb15_ := hall 15 (by kernel_rfl)
           have hb16_ := hall 16 (by kernel_rfl)
           have hb17_ := hall 17 (by kernel_rfl)
           have hb18_ := hall 18 (by kernel_rfl)
           have hb19_ := hall 19 (by kernel_rfl)
           have hb20_ := hall 20 (by kernel_rfl)
           have hb21_ := hall 21 (by kernel_rfl)
           have hb22_ := hall 22 (by kernel_rfl)
           have hb23_ := hall 23 (by kernel_rfl)
           subst ha
           simp only [putSel, hb0_, hb1_, hb2_, hb3_, hb4_, hb5_, hb6_, hb7_, hb8_, hb9_, hb10_, hb11_, hb12_, hb13_, hb14_, hb15_, hb16_, hb17_, hb18_, hb19_, hb20_, hb21_, hb22_, hb23_, if_true, Act.put, List.setIfInBounds_toArray, List.set_cons_zero, List.set_cons_succ]
           have HBW := Aside0.mk Q_HBW
           clear Q_HBW
           have BX := Aside0.mk Q_BX
           clear Q_BX
           clear Q_O0
           clear Q_O1
           have O2 := Aside0.mk (Q_O2 hb23_)
           clear Q_O2
           clear hall hb0_ hb1_ hb2_ hb3_ hb4_ hb5_ hb6_ hb7_ hb8_ hb9_ hb10_ hb11_ hb12_ hb13_ hb14_ hb15_ hb16_ hb17_ hb18_ hb19_ hb20_ hb21_ hb22_ hb23_
           obtain ⟨W4, rfl⟩ : ∃ W_ : World, W_ = w' := ⟨_, rfl⟩
           have HB := HBW
           have HBX := Aside0.mk BX.out.1
           have HYB := Aside0.mk BX.out.2
           clear HBW BX CQ
           have hY := HY.out
           subst hY
           have hi1 : (i + 1).toNat = i.toNat + 1 := by omega
           have CQ := Aside0.mk (show Cq { X with st := a0.st.map (m65 e n true), ri := a0.ri.map (m55 e n true), ca := a0.ca.map (fun c => c.map (m61 e n true)), su := mixL (m50 true) (i.toNat + 1) a0.su } gx (fun _ => True) w.heap.size W4 from ⟨by show W4.heap[gx]? = some (.cells #[.slice X.A0 (a0.st.map (m65 e n true)).length X.c0, .slice X.A1 (a0.ri.map (m55 e n true)).length X.c1, .slice X.A2 (a0.ca.map (fun c => c.map (m61 e n true))).length X.c2, .slice X.A3 (mixL (m50 true) (i.toNat + 1) a0.su).length X.c3] 27 (0, 0)); rw [mix_len, show X.A3 = some ⟨q, 0, none⟩ from HA3.out]; exact HYB.out, by rw [← HMX.out (⟨sv.f1, sv.f0, sv.f2⟩ : S50) rfl]; exact O2.out⟩)
           clear HYB
           go_wp2_with fail
           go_roundg (a0.su.length - (i + 1).toNat)
           case measure => omega
           case rel => exact ⟨i + 1, by first | rfl | go_num, by omega, by omega, by omega, HB, HBX, by rw [hi1]; exact CQ⟩
        ·
         have e_ : i = (a0.su.length : Int) := by omega
         subst e_
         go_upto_region 28 with (fail)
         clear x0_ x1_ x2_ x3_
         clear d0 d1 d2 d3
         rw [hY, Int.toNat_natCast, mix_end] at CQ
         clear hY HYL hyl HYB i0 i1 hgi hlt Y
         obtain ⟨Z, hZ⟩ : ∃ Z : Rv, Z = { X with st := a0.st.map (m65 e n a4), ri := a0.ri.map (m55 e n a4), ca := a0.ca.map (fun c => c.map (m61 e n a4)), su := a0.su.map (m50 a4) } := ⟨_, rfl⟩
         rw [← hZ] at CQ
         have HLW := Aside0.mk (moved_law (R := a0) (X := Z) (a := pa) (b := pb) (e := e) (n := n) (r := a4) HC.out HF.out HP.out.1 HP.out.2.1 HP.out.2.2 hc1 hu1 (by rw [hZ]) (by rw [hZ]) (by rw [hZ]) (by rw [hZ]))
         have HIZ := Aside0.mk CQ.out.own.inn
         have HYB := Aside0.mk CQ.out.box
         clear hZ CQ
         have d0 := (blk_cell HBX.out 0).trans rfl
         have d1 := (blk_cell HBX.out 1).trans rfl
         have d2 := (blk_cell HBX.out 2).trans rfl
         have d3 := (blk_cell HBX.out 3).trans rfl
         have x0_ := (blk_cell HYB.out 0).trans rfl
         have x1_ := (blk_cell HYB.out 1).trans rfl
         have x2_ := (blk_cell HYB.out 2).trans rfl
         have x3_ := (blk_cell HYB.out 3).trans rfl
         go_wp2_with fail
         refine (lfault_c Z _ HIZ.out).mono ?_
         rintro e w8_ ⟨rfl, hb_⟩
         replace HB := Aside0.mk (bt HB.out hb_)
         replace HBX := Aside0.mk (blk_below HBX.out hb_)
         replace HYB := Aside0.mk (blk_below HYB.out hb_)
         replace HIZ := Aside0.mk (HIZ.out.below hb_)
         clear x0_ x1_ x2_ x3_
         clear d0 d1 d2 d3
         clear hb_
         have d0 := (blk_cell HBX.out 0).trans rfl
         have d1 := (blk_cell HBX.out 1).trans rfl
         have d2 := (blk_cell HBX.out 2).trans rfl
         have d3 := (blk_cell HBX.out 3).trans rfl
         have x0_ := (blk_cell HYB.out 0).trans rfl
         have x1_ := (blk_cell HYB.out 1).trans rfl
         have x2_ := (blk_cell HYB.out 2).trans rfl
         have x3_ := (blk_cell HYB.out 3).trans rfl
         obtain ⟨yc, hyc⟩ : ∃ yc, Z.lv.check = yc := ⟨_, rfl⟩
         have HYC := Aside0.mk hyc
         rw [hyc]
         clear hyc
         by_cases hz : yc = 0
         rotate_left
         ·
          have t1 : (yc != 0) = true := by simpa using hz
          clear hz
          go_wp2_with fail
          refine (awake_c _).mono ?_
          rintro e w9_ ⟨rfl, hb_⟩
          replace HB := Aside0.mk (bt HB.out hb_)
          replace HBX := Aside0.mk (blk_below HBX.out hb_)
          replace HYB := Aside0.mk (blk_below HYB.out hb_)
          replace HIZ := Aside0.mk (HIZ.out.below hb_)
          clear x0_ x1_ x2_ x3_
          clear d0 d1 d2 d3
          clear hb_
          go_wp2_with fail
          go_ret
          exact ⟨ret_bool rfl, HB.out⟩
         subst hz
         go_wp2_with fail
         refine (alike_c a0 Z pa pb _ (HI.out.below HB.out) HIZ.out HF.out HLW.out.1 (HLW.out.2 HYC.out)).mono ?_
         rintro e w9_ ⟨rfl, hb_⟩
         replace HB := Aside0.mk (bt HB.out hb_)
         replace HBX := Aside0.mk (blk_below HBX.out hb_)
         replace HYB := Aside0.mk (blk_below HYB.out hb_)
         replace HIZ := Aside0.mk (HIZ.out.below hb_)
         clear x0_ x1_ x2_ x3_
         clear d0 d1 d2 d3
         clear hb_
         have d0 := (blk_cell HBX.out 0).trans rfl
         have d1 := (blk_cell HBX.out 1).trans rfl
         have d2 := (blk_cell HBX.out 2).trans rfl
         have d3 := (blk_cell HBX.out 3).trans rfl
         have x0_ := (blk_cell HYB.out 0).trans rfl
         have x1_ := (blk_cell HYB.out 1).trans rfl
         have x2_ := (blk_cell HYB.out 2).trans rfl
         have x3_ := (blk_cell HYB.out 3).trans rfl
         go_wp2_with fail
         refine (awake_c _).mono ?_
         rintro e w10_ ⟨rfl, hb_⟩
         replace HB := Aside0.mk (bt HB.out hb_)
         replace HBX := Aside0.mk (blk_below HBX.out hb_)
         replace HYB := Aside0.mk (blk_below HYB.out hb_)
         replace HIZ := Aside0.mk (HIZ.out.below hb_)
         clear x0_ x1_ x2_ x3_
         clear d0 d1 d2 d3
         clear hb_
         go_wp2_with fail
         go_ret
         exact ⟨ret_bool rfl, HB.out⟩
end Go.Proofs.Ytkbdphjnpieceaa.G
namespace Go.Proofs.Ytkbdphjnpieceaa.hillMoved
open Go.ChangeShapes Go.WideShapes Go.ChangeAt Go.RowKit Go.Proofs.Ytkbdphjnpieceaa.G
set_option linter.unusedVariables false
theorem own : ownKnob Try.prog.godebug = none := by kernel_rfl
theorem laidOut : laidOutB Try.prog = true := by kernel_rfl
set_option maxRecDepth 100000 in
theorem lifted (os : Os) (started : os.Started) (H : Type) (enc : TypeId × Value → H) :
  ReturnsInHanded {} Try.checked os 6 .any (Rows.hillMovedSpec.pre6 enc Try.prog Try.f6 Rows.hillMovedRow.domain false) (Rows.hillMovedSpec.post enc Try.prog Try.f6 false true false false) := by
 refine returnsInHanded_of_change_sized (C := Try.checked) own started (by kernel_rfl) Try.func6
  (ChangeSpec.witness6 (enc := enc) (C := Try.checked) false ⟨#[], #[.agg #[.slice none 0 0, .slice none 0 0, .slice none 0 0, .slice none 0 0], .int .u8 0, .int .u8 0, .int .u8 0, .bool false], []⟩ 8 (by kernel_rfl) (by kernel_rfl) (by kernel_rfl) (by kernel_rfl)) ?_
 intro W base args ds gs before hval0 hW hcnd hsz0 _
 have hval : ∀ (j : Nat) t v, Try.f6.params[j]? = some t → args[j]? = some v → Value.okWide Try.prog W .any base t v := hval0
 have hW' := hW
 obtain ⟨p, q, hA0, hV, rfl, hfz, hnd⟩ := hW
 have hA : DataW.TrodAll enc Try.prog W 0 (fun _ => true) true Try.f6.params.toList args.toList ds p := hA0
 rw [Try.params6] at hA hval
 obtain ⟨v0, vs0, d0, ds0, p0, q0, hargs, rfl, rfl, h0, r0⟩ := trodAll_cons hA
 obtain ⟨v1, vs1, d1, ds1, p1, q1, rfl, rfl, rfl, h1, r1⟩ := trodAll_cons r0
 obtain ⟨v2, vs2, d2, ds2, p2, q2, rfl, rfl, rfl, h2, r2⟩ := trodAll_cons r1
 obtain ⟨v3, vs3, d3, ds3, p3, q3, rfl, rfl, rfl, h3, r3⟩ := trodAll_cons r2
 obtain ⟨v4, vs4, d4, ds4, p4, q4, rfl, rfl, rfl, h4, r4⟩ := trodAll_cons r3
 obtain ⟨rfl, rfl, rfl⟩ := trodAll_nil r4
 obtain rfl : args = #[v0, v1, v2, v3, v4] := by cases args; simp_all
 obtain ⟨rfl, rfl⟩ := trodVars_none hV
 have k0 := h0
 have lt0 : ∀ x ∈ p0, x.block < W.heap.size := by obtain ⟨m, hm⟩ := k0; exact DataW.trod_lt m _ _ _ hm
 obtain ⟨a0, rfl, w0⟩ := open_land (hval 0 27 v0 rfl rfl) h0
 obtain ⟨a1, rfl, rfl, rfl, w1⟩ := open_int Try.underlying5 (hval 1 5 v1 rfl rfl) h1
 obtain ⟨a2, rfl, rfl, rfl, w2⟩ := open_int Try.underlying5 (hval 2 5 v2 rfl rfl) h2
 obtain ⟨a3, rfl, rfl, rfl, w3⟩ := open_int Try.underlying5 (hval 3 5 v3 rfl rfl) h3
 obtain ⟨a4, rfl, rfl, rfl⟩ := open_bool Try.underlying4 (hval 4 4 v4 rfl rfl) h4
 clear hA0 hval0 hsz0
 refine (G.hillMoved_c a0 a1 a2 a3 a4 W w0 w1 w2 w3).mono fun e W' ⟨he, bel⟩ => ?_
 subst he
 exact ⟨_, rfl, _, _, _, [], _, [], hW', trodAll_mk1 (shut_bool Try.underlying4 _), (trodAll_cons_mk (Below.trod laidOut (by kernel_rfl) (of_decide_eq_true (by kernel_rfl)) k0 bel lt0) (trodAll_cons_mk (shut_int Try.underlying5 w1) (trodAll_cons_mk (shut_int Try.underlying5 w2) (trodAll_cons_mk (shut_int Try.underlying5 w3) (trodAll_cons_mk (shut_bool Try.underlying4 _) trodAll_mk0))))), rfl, bel.frame _, fun h => by cases h⟩
theorem over : Rows.hillMovedRow.holds Try.pinned (OpenSpec.ofChange Rows.hillMovedSpec) :=
 OpenClaim.holds_of_wide 6 Try.f6 rfl rfl rfl rfl rfl rfl rfl ⟨rfl, rfl, rfl, rfl, rfl⟩ rfl rfl rfl rfl rfl (by kernel_rfl) Try.func6 (by kernel_rfl)
  (of_decide_eq_true (by kernel_rfl)) (by unfold Func.isWrapper; first | (rw [if_pos (by decide +kernel)]; kernel_rfl) | (rw [if_neg (by decide +kernel)]; exact ⟨rfl, rfl⟩))
  (fun os started H enc _ => lifted os started H enc)
theorem proved : Rows.HillMovedSaid := over
#print axioms proved
end Go.Proofs.Ytkbdphjnpieceaa.hillMoved
namespace Go.Proofs.Ytkbdphjnpieceaa
/-- The row, under a short name, for the claim. -/
theorem hillMoved_holds : Rows.HillMovedSaid := hillMoved.proved
end Go.Proofs.Ytkbdphjnpieceaa

