/- A land in memory of its own, by the blocks that it may use; one of its cases lent and given back. -/
import Derived.Test.YtkbdphjnpieceaaC1
namespace Go.Proofs.Ytkbdphjnpieceaa.G
open Go.RowKit Go.Proofs.YtkbdphjnpieceaaW.PrintWords Go.Proofs.YtkbdphjnpieceaaW.PrintLast Go.Proofs.YtkbdphjnpieceaaW.PrintMore
set_option linter.unusedVariables false
set_option linter.unusedSimpArgs false
structure Ow (X : Rv) (ok : Nat → Prop) (base : Nat) (W : World) : Prop where
  r0 : Kd.R k65 65 W base ok (.slice X.A0 X.st.length X.c0) X.st
  r1 : Kd.R k55 55 W base ok (.slice X.A1 X.ri.length X.c1) X.ri
  r2 : Kd.S (Kd.slice 61 k61) 59 W base ok (.slice X.A2 X.ca.length X.c2) X.ca
  r3 : Kd.R k50 50 W base ok (.slice X.A3 X.su.length X.c3) X.su
section
variable {X : Rv} {ok ok' okw : Nat → Prop} {base q g : Nat} {W W1 : World} {i : Int} {v v1 : Value}
theorem Own.ow (h : Own X base W) : Ow X (fun k => base ≤ k ∧ k < W.heap.size) base W :=
  ⟨Kd.R_mono (Kd.R_bound h.r0) (fun k hk => ⟨hk.2.1, hk.2.2.1⟩), Kd.R_mono (Kd.R_bound h.r1) (fun k hk => ⟨hk.2.1, hk.2.2.1⟩), Kd.S_mono (Kd.S_bound h.r2) (fun k hk => ⟨hk.2.1, hk.2.2.1⟩), Kd.R_mono (Kd.R_bound h.r3) (fun k hk => ⟨hk.2.1, hk.2.2.1⟩)⟩
theorem Ow.mono (h : Ow X ok base W) (hm : ∀ k, ok k → ok' k) : Ow X ok' base W := ⟨Kd.R_mono h.r0 hm, Kd.R_mono h.r1 hm, Kd.S_mono h.r2 hm, Kd.R_mono h.r3 hm⟩
theorem Ow.lower {base' : Nat} (h : Ow X ok base W) (hb : base' ≤ base) : Ow X ok base' W := ⟨Kd.R_lower h.r0 hb, Kd.R_lower h.r1 hb, Kd.S_lower h.r2 hb, Kd.R_lower h.r3 hb⟩
theorem Ow.step (h : Ow X ok base W) (hm : ∀ k, ok k → k < W.heap.size → W1.heap[k]? = W.heap[k]?) : Ow X ok base W1 := ⟨Kd.R_step h.r0 hm, Kd.R_step h.r1 hm, Kd.S_step h.r2 hm, Kd.R_step h.r3 hm⟩
theorem Ow.below (h : Ow X ok base W) (hb : Below W.heap.size W W1) : Ow X ok base W1 := h.step fun k _ hk => hb.block k hk
theorem Ow.inn (h : Ow X ok base W) : X.In W :=
  ⟨(Kd.R_reads' h.r0).2.2, (Kd.R_reads' h.r0).2.1, (Kd.R_reads' h.r1).2.2, (Kd.R_reads' h.r1).2.1, (Kd.R_reads' (Kd.S_R h.r2)).2.2, (Kd.R_reads' (Kd.S_R h.r2)).2.1, (Kd.R_reads' h.r3).2.2, (Kd.R_reads' h.r3).2.1⟩
/-- The case i of the land, lent. -/
structure Lent (X : Rv) (i : Int) (q : Nat) (ok okw : Nat → Prop) (base : Nat) (v : Value) (W : World) : Prop where
  r0 : Kd.R k65 65 W base ok (.slice X.A0 X.st.length X.c0) X.st
  r1 : Kd.R k55 55 W base ok (.slice X.A1 X.ri.length X.c1) X.ri
  r2 : Kd.H (Kd.slice 61 k61) 59 W base ok (.slice (some ⟨q, 0, none⟩) X.ca.length X.c2) X.ca i okw [v]
  r3 : Kd.R k50 50 W base ok (.slice X.A3 X.su.length X.c3) X.su
  ne : ∀ k, okw k → k ≠ q
theorem Lent.below (h : Lent X i q ok okw base v W) (hb : Below W.heap.size W W1) : Lent X i q ok okw base v W1 := ⟨Kd.R_below h.r0 hb, Kd.R_below h.r1 hb, Kd.H_below h.r2 hb, Kd.R_below h.r3 hb, h.ne⟩
theorem Lent.grown {u : Value} {xs : List S61} (h : Lent X i q ok okw base v W) (hR : Kd.R k61 61 W base okw u xs) (hg : W.grownBy W1 u.ownBlock) : Lent X i q ok okw base v W1 :=
  ⟨Kd.R_over h.r0 hR (by decide) hg, Kd.R_over h.r1 hR (by decide) hg, Kd.H_grown h.r2 hg (fun k hk => hR.1 k hk), Kd.R_over h.r3 hR (by decide) hg, h.ne⟩
theorem Lent.typed (h : Lent X i q ok okw base v W) (h0 : 0 ≤ i) (h1 : i < X.ca.length) : (∃ cells, W.heap[q]? = some (.cells cells 59 (0, 0))) ∧ W.cell? ⟨q, i.toNat, none⟩ = some v := by
  obtain ⟨rows, _, hraw, _, _, hcc, _⟩ := Kd.H_raw h.r2 h0 h1
  refine ⟨Kd.R_typed hraw q (by simp [Value.ownBlock]), ?_⟩
  have := hcc 0 v rfl
  rwa [show i.toNat * (Kd.slice 61 k61).sz + 0 = i.toNat from by show i.toNat * 1 + 0 = _; omega] at this
theorem Ow.lend (h : Ow X ok base W) (h0 : 0 ≤ i) (h1 : i < X.ca.length) : ∃ q v okw, X.A2 = some ⟨q, 0, none⟩ ∧ base ≤ q ∧ ok q ∧ q < W.heap.size ∧ (∀ k, okw k → ok k ∨ W.heap.size ≤ k) ∧ (∀ k, W.heap.size ≤ k → okw k) ∧
    Kd.R k61 61 W base okw v (rd_L3 X.ca i) ∧ Lent X i q (fun k => ok k ∨ W.heap.size ≤ k) okw base v W := by
  have hs := h.r2
  have hA : ∃ ad, X.A2 = some ad := by
    obtain ⟨ad, e, _⟩ := (Kd.R_reads' (Kd.S_R hs)).2.2.2.2 (by omega)
    exact ⟨ad, e⟩
  obtain ⟨ad, hA⟩ := hA
  rw [hA] at hs
  obtain ⟨q, rfl⟩ := Kd.R_head (Kd.S_R hs)
  have hqo : ok q := (Kd.S_R hs).1 q (by simp [Value.ownBlock])
  have hqb : base ≤ q := Kd.S_base hs q (by simp [Value.ownBlock])
  have hql : q < W.heap.size := by
    obtain ⟨cells, hc⟩ := Kd.S_typed hs q (by simp [Value.ownBlock])
    exact blk_lt hc
  obtain ⟨oki, c, hcl, hM, hcc, hoki, hH⟩ := Kd.S_lend (Kd.S_mono hs (fun k hk => (Or.inl hk : ok k ∨ W.heap.size ≤ k))) ([] : List S61) i h0 h1
  obtain ⟨v, rfl, hR⟩ := hM
  have hin : ∀ k, oki k → ok k ∨ W.heap.size ≤ k := fun k hk => (hoki k hk).1
  refine ⟨q, v, fun k => oki k ∨ (ok k ∨ W.heap.size ≤ k) ∧ W.heap.size ≤ k, hA, hqb, hqo, hql, fun k hk => hk.elim (hin k) (fun h2 => h2.1), fun k hk => .inr ⟨.inr hk, hk⟩, Kd.R_mono hR (fun k hk => .inl hk), ?_⟩
  exact ⟨Kd.R_mono h.r0 (fun _ hk => .inl hk), Kd.R_mono h.r1 (fun _ hk => .inl hk), Kd.H_widen hH, Kd.R_mono h.r3 (fun _ hk => .inl hk), fun k hk => hk.elim (fun h2 => (hoki k h2).2) (fun h2 => by have := h2.2; omega)⟩
theorem Lent.back {xs : List S61} (h : Lent X i q ok okw base v W) (hR : Kd.R k61 61 W base okw v1 xs) (hA : X.A2 = some ⟨q, 0, none⟩) (h0 : 0 ≤ i) (h1 : i < X.ca.length) : Ow { X with ca := X.ca.set i.toNat xs } ok base (W.setCell ⟨q, i.toNat, none⟩ v1) := by
  obtain ⟨rows, _, hraw, _, _, _, _⟩ := Kd.H_raw h.r2 h0 h1
  obtain ⟨hs, hg⟩ := Kd.S_seg (okg := fun _ => False) (okp := okw) (seg := [v1]) (j := 0) (x' := xs) (Kd.H_mono h.r2 (fun k hk => ⟨hk, fun h2 => h2.elim⟩)) h0 h1 (by show 0 + 1 ≤ 1; omega) (by exact ⟨v1, rfl, hR⟩) (fun k hk => .inl hk) (fun _ hk => hk.elim)
  rw [show i.toNat * (Kd.slice 61 k61).sz + 0 = i.toNat from by show i.toNat * 1 + 0 = _; omega] at hs hg
  have hgo : (Value.slice (some ⟨q, 0, none⟩) X.ca.length X.c2).ownBlock = some q := by simp [Value.ownBlock]
  rw [← hgo] at hg
  refine ⟨Kd.R_over h.r0 hraw (by decide) hg, Kd.R_over h.r1 hraw (by decide) hg, ?_, Kd.R_over h.r3 hraw (by decide) hg⟩
  simp only [List.length_set, hA]
  exact hs
end
end Go.Proofs.Ytkbdphjnpieceaa.G
