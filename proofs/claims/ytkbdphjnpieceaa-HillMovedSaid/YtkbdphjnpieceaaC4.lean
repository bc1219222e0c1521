/- Several copies of a land, each in blocks of its own. -/
import Derived.Test.YtkbdphjnpieceaaC3
import Derived.Test.YtkbdphjnpieceaaP3
namespace Go.Proofs.Ytkbdphjnpieceaa.G
open Go.RowKit Go.Proofs.YtkbdphjnpieceaaW.PrintWords Go.Proofs.YtkbdphjnpieceaaW.PrintLast Go.Proofs.YtkbdphjnpieceaaW.PrintMore
set_option linter.unusedVariables false
set_option linter.unusedSimpArgs false
section
variable {X : Rv} {ok ok' okw : Nat → Prop} {base q g : Nat} {W W1 : World} {i : Int} {v v1 : Value}
theorem Ow.set27 (h : Ow X ok base W) {cells : Array Value} (hb : W.heap[g]? = some (.cells cells 27 (0, 0))) (j : Nat) (u : Value) : Ow X ok base (W.setCell ⟨g, j, none⟩ u) :=
  ⟨R_set h.r0 hb (by decide) j u, R_set h.r1 hb (by decide) j u, S_set h.r2 hb (by decide) j u, R_set h.r3 hb (by decide) j u⟩
/-- A land in its box. -/
structure Cq (X : Rv) (g : Nat) (ok : Nat → Prop) (base : Nat) (W : World) : Prop where
  box : W.heap[g]? = some (.cells #[.slice X.A0 X.st.length X.c0, .slice X.A1 X.ri.length X.c1, .slice X.A2 X.ca.length X.c2, .slice X.A3 X.su.length X.c3] 27 (0, 0))
  own : Ow X ok base W
theorem Cq.step (h : Cq X g ok base W) (hg : W1.heap[g]? = W.heap[g]?) (hm : ∀ k, ok k → k < W.heap.size → W1.heap[k]? = W.heap[k]?) : Cq X g ok base W1 := ⟨hg.trans h.box, h.own.step hm⟩
theorem Cq.below (h : Cq X g ok base W) (hb : Below W.heap.size W W1) : Cq X g ok base W1 := ⟨blk_below h.box hb, h.own.below hb⟩
theorem Cq.far (h : Cq X g ok base W) {p : Addr} (hg : g ≠ p.block) (hk : ∀ k, ok k → k ≠ p.block) (u : Value) : Cq X g ok base (W.setCell p u) := h.step (Below.heap_setCell W p u g hg) (fun k ho _ => Below.heap_setCell W p u k (hk k ho))
theorem Cq.grown (h : Cq X g ok base W) {row : Option Nat} (hr : W.grownBy W1 row) (hg : some g ≠ row) (hk : ∀ k, ok k → k < W.heap.size → some k ≠ row) : Cq X g ok base W1 := h.step (hr.block g (blk_lt h.box) hg) (fun k ho hlt => hr.block k hlt (hk k ho hlt))
/-- What a copy is when it is made: the land's own lists, in blocks from lo to hi. -/
structure New (R X : Rv) (lo hi base : Nat) (W0 W : World) : Prop where
  st : X.st = R.st
  ri : X.ri = R.ri
  ca : X.ca = R.ca
  su : X.su = R.su
  lo_ : W0.heap.size ≤ lo
  hi_ : hi ≤ W.heap.size
  own : Ow X (fun k => lo ≤ k ∧ k < hi) base W
theorem New.below {R : Rv} {lo hi : Nat} {W0 : World} (h : New R X lo hi base W0 W) (hb : Below W.heap.size W W1) : New R X lo hi base W0 W1 := ⟨h.st, h.ri, h.ca, h.su, h.lo_, Nat.le_trans h.hi_ hb.size, h.own.below hb⟩
theorem New.set27 {R : Rv} {lo hi : Nat} {W0 : World} (h : New R X lo hi base W0 W) {cells : Array Value} (hb : W.heap[g]? = some (.cells cells 27 (0, 0))) (j : Nat) (u : Value) : New R X lo hi base W0 (W.setCell ⟨g, j, none⟩ u) :=
  ⟨h.st, h.ri, h.ca, h.su, h.lo_, by simpa using h.hi_, h.own.set27 hb j u⟩
theorem New.mk_ {R : Rv} {W0 W2 : World} {B0 B1 B2 B3 : Option Addr} {c0 c1 c2 c3 : Nat} (h : Own ⟨R.st, R.ri, R.ca, R.su, B0, B1, B2, B3, c0, c1, c2, c3⟩ W.heap.size W2) (h0 : W0.heap.size ≤ W.heap.size) (hb : base ≤ W.heap.size) : New R ⟨R.st, R.ri, R.ca, R.su, B0, B1, B2, B3, c0, c1, c2, c3⟩ W.heap.size W2.heap.size base W0 W2 :=
  ⟨rfl, rfl, rfl, rfl, h0, Nat.le_refl _, h.ow.lower hb⟩
/-- A ridge is added, in blocks of the land's own or new ones. -/
theorem Ow.ridge {A : Option Addr} {c : Nat} {xs : List S55} (h : Ow X ok base W) (hR : Kd.R k55 55 W1 base ok' (.slice A xs.length c) xs) (hg : W.grownBy W1 (Value.slice X.A1 X.ri.length X.c1).ownBlock) (hk : ∀ k, ok k → ok' k) : Ow { X with ri := xs, A1 := A, c1 := c } ok' base W1 :=
  ⟨Kd.R_mono (Kd.R_over h.r0 h.r1 (by decide) hg) hk, hR, Kd.S_mono (Kd.S_over' h.r2 (Kd.R_typed h.r1) (by decide) hg) hk, Kd.R_mono (Kd.R_over h.r3 h.r1 (by decide) hg) hk⟩
def g55 (x : S55) : List Value := [.int .i64 x.f0, .int .i64 x.f1, .int .i64 x.f2, .int .i64 x.f3, .int .i64 x.f4, .int .i64 x.f5]
/-- A ridge of the land: its cells, and a store into one. -/
theorem Ow.ri (h : Ow X ok base W) (h0 : 0 ≤ i) (h1 : i < X.ri.length) :
    ∃ q, X.A1 = some ⟨q, 0, none⟩ ∧ base ≤ q ∧ ok q ∧ (∃ cells, W.heap[q]? = some (.cells cells 55 (0, 0))) ∧ (∀ k u, (g55 (rd_T55 X.ri i))[k]? = some u → W.cell? ⟨q, i.toNat * 6 + k, none⟩ = some u) ∧
      ∀ (k : Nat) (u : Value) (x' : S55), k < 6 → (g55 (rd_T55 X.ri i)).take k ++ [u] ++ (g55 (rd_T55 X.ri i)).drop (k + 1) = g55 x' →
        Ow { X with ri := X.ri.set i.toNat x' } ok base (W.setCell ⟨q, i.toNat * 6 + k, none⟩ u) := by
  obtain ⟨r0, r1, r2, r3⟩ := h
  have hA : ∃ ad, X.A1 = some ad := by
    obtain ⟨ad, e, _⟩ := (Kd.R_reads' r1).2.2.2.2 (by omega)
    exact ⟨ad, e⟩
  obtain ⟨ad, hA⟩ := hA
  rw [hA] at r1
  obtain ⟨q, rfl⟩ := Kd.R_head r1
  obtain ⟨c, hcl, hM, hcc, hfr⟩ := Kd.R_elem r1 z55 i h0 h1
  have hc : c = g55 (rd_T55 X.ri i) := k55_openM hM
  subst hc
  refine ⟨q, hA, Kd.R_base r1 q rfl, r1.1 q (by simp [Value.ownBlock]), Kd.R_typed r1 q (by simp [Value.ownBlock]), hcc, fun k u x' hk hx => ?_⟩
  obtain ⟨k0, k1⟩ := Kd.R_seg (okp := fun _ => False) (seg := [u]) (j := k) (x' := x') r1 i h0 h1 hcl hcc (by show k + 1 ≤ 6; omega) (by show k55.M W base _ x' _; rw [List.length_singleton, hx]; exact k55_mkM _ _ _ _) (fun _ h => h.elim)
  refine ⟨Kd.R_over r0 r1 (by decide) k1, ?_, Kd.S_over' r2 (Kd.R_typed r1) (by decide) k1, Kd.R_over r3 r1 (by decide) k1⟩
  simp only [List.length_set, hA]
  exact k0
end
theorem blk_ne {W : World} {g q t t' : Nat} {c c' : Array Value} (h : W.heap[g]? = some (.cells c t (0, 0))) (h' : W.heap[q]? = some (.cells c' t' (0, 0))) (ht : t ≠ t') : g ≠ q := by
  rintro rfl
  rw [h] at h'
  injection h' with h'
  injection h' with _ h'
  exact ht h'
theorem rd_L3_mem {ca : List (List S61)} {i : Int} (h0 : 0 ≤ i) (h1 : i < ca.length) : rd_L3 ca i ∈ ca := by
  unfold rd_L3
  rw [List.getD_eq_getElem?_getD, List.getElem?_eq_getElem (by omega : i.toNat < ca.length)]
  exact List.getElem_mem _
theorem rd_L3_set {ca : List (List S61)} {i : Int} (h0 : 0 ≤ i) (h1 : i < ca.length) (x : List S61) : rd_L3 (ca.set i.toNat x) i = x := by
  unfold rd_L3
  rw [getD_set_, if_pos ⟨rfl, by omega⟩]
theorem setCell_size (W : World) (p : Addr) (u : Value) : (W.setCell p u).heap.size = W.heap.size := by simp
theorem few_set {R Y : Rv} {k : Int} {x : List S61} (hF : R.Few) (hs : Y.st = R.st) (hr : Y.ri.length ≤ 1000) (hu : Y.su = R.su) (hc : Y.ca = R.ca.set k.toNat x) (hx : x.length ≤ 1000) : Y.Few := by
  refine ⟨by rw [hs]; exact hF.s, hr, by rw [hu]; exact hF.u, by rw [hc, List.length_set]; exact hF.c, fun j hj => ?_⟩
  rw [hc, getD_set_]
  split
  · exact hx
  · exact hF.cc j (by rw [hc, List.length_set] at hj; exact hj)
end Go.Proofs.Ytkbdphjnpieceaa.G
