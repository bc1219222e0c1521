/- What an argument's datum tells is read as a value of a kind: whole numbers, structs, slices. -/
import Derived.Test.YtkbdphjnpieceaaGx0
import Derived.Deep.Slices
namespace Go.Proofs.Ytkbdphjnpieceaa.G
open Go.RowKit Go.Proofs.YtkbdphjnpieceaaW.PrintWords Go.Proofs.YtkbdphjnpieceaaW.PrintLast Go.Proofs.YtkbdphjnpieceaaW.PrintMore
open Go.Deep
set_option linter.unusedVariables false
set_option linter.unusedSimpArgs false

/-- A datum of type t is read as a value of kind d. -/
def Opens {α : Type} (d : Kd α) (t : TypeId) : Prop :=
  Try.prog.cellsOf t = d.sz ∧ ∀ (H : Type) (enc : TypeId × Value → H) (w : World) (base : Nat) (spare : Nat → Bool) (held : Bool) (fuel : Nat) (cs : List Value) (x : DataW H × List MemPlace),
    DataW.trod enc Try.prog w base spare held fuel t cs = some x → ∃ a : α, d.K w a cs

theorem opens_slice {α : Type} {d : Kd α} {t e : TypeId} (ht : Try.prog.underlying t = some (.slice e)) (hc : Try.prog.cellsOf t = 1) (q : Nat) (h : Opens d e) : Opens (Kd.slice q d) t := by
  refine ⟨hc, fun H enc w base spare held fuel cs x hx => ?_⟩
  rcases open_slice ht hx with ⟨rfl, _⟩ | ⟨a, len, cap, m, n, D, Pl, rfl, _, hl, hm, hmm, _, hi⟩
  · exact ⟨[], none, 0, rfl, Nat.le_refl _, Kd.C_nil d w⟩
  · have hlm : len ≤ m := by rw [hmm]; split <;> omega
    by_cases hl0 : len = 0
    · subst hl0
      exact ⟨[], some a, cap, rfl, Nat.zero_le _, rfl, by simp, fun h => absurd h (Nat.lt_irrefl 0)⟩
    obtain ⟨y0, _⟩ : ∃ (z : α) (cs' : List Value), d.K w z cs' := by
      obtain ⟨cs', h1, h2⟩ := hi 0 (by omega)
      obtain ⟨z, hz⟩ := h.2 H enc w base spare held n cs' _ h2
      exact ⟨z, cs', hz⟩
    haveI : Inhabited (α × List Value) := ⟨(y0, [])⟩
    obtain ⟨f, hf⟩ := choose_lt (α := α × List Value) (n := len) (p := fun i y => w.cells? base (a.add (i * Try.prog.cellsOf e)) (Try.prog.cellsOf e) = some y.2 ∧ d.K w y.1 y.2) (fun i hil => by
      obtain ⟨cs', h1, h2⟩ := hi i (by omega)
      obtain ⟨z, hz⟩ := h.2 H enc w base spare held n cs' _ h2
      exact ⟨(z, cs'), h1, hz⟩)
    refine ⟨(List.range len).map (fun i => (f i).1), some a, cap, by simp, by simpa using hl, by simp, by simp; unfold maxLen at hm; omega, fun _ => ⟨a, rfl, fun j p hj => ?_⟩⟩
    have hjl : j < len := by
      have := (List.getElem?_eq_some_iff.1 hj).1
      simpa using this
    obtain ⟨h1, h2⟩ := hf j hjl
    obtain ⟨_, hlen, hat⟩ := World.cells?_some h1
    have hp : p = (f j).1 := by
      rw [List.getElem?_map, List.getElem?_range hjl] at hj
      simpa using hj.symm
    subst hp
    refine ⟨(f j).2, by rw [hlen, h.1], h2, fun i u hu => ?_⟩
    have hil : i < Try.prog.cellsOf e := by
      have := (List.getElem?_eq_some_iff.1 hu).1
      omega
    rw [← h.1, ← Go.Deep.add_add, hat i hil, hu]

theorem fields_of {H : Type} {enc : TypeId × Value → H} {w : World} {base : Nat} {spare : Nat → Bool} {held : Bool} {fuel : Nat} {cs : List Value} {x : DataW H × List MemPlace} {t : TypeId} {fs : Array Field}
    (ht : Try.prog.underlying t = some (.struct fs)) (h : DataW.trod enc Try.prog w base spare held fuel t cs = some x) :
    cs.length = Try.prog.cellsOf t ∧ ∀ (j : Nat) (f : Field), fs[j]? = some f → ∃ n y, DataW.trod enc Try.prog w base spare held n f.type ((cs.drop f.offset).take (Try.prog.cellsOf f.type)) = some y := by
  obtain ⟨ys, n', _, hy, hlen, hyl, hf⟩ := DataW.trod_struct ht h
  refine ⟨hlen, fun j f hj => ⟨n', ?_⟩⟩
  have hjl : j < fs.size := (Array.getElem?_eq_some_iff.1 hj).1
  have hys : ys[j]? = some (ys[j]'(by omega)) := List.getElem?_eq_getElem (by omega)
  exact ⟨_, (hf j f hj).trans hys⟩

/-- A struct's whole numbers, one after the other from cell o on. -/
theorem int_field {H : Type} {enc : TypeId × Value → H} {w : World} {base : Nat} {spare : Nat → Bool} {held : Bool} {cs : List Value} {o : Nat} {c : Value} (hc : (cs.drop o).take 1 = [c])
    (h : ∃ n y, DataW.trod enc Try.prog w base spare held n 3 ((cs.drop o).take (Try.prog.cellsOf 3)) = some y) : ∃ n : Int, c = .int .i64 n := by
  obtain ⟨m, y, hy⟩ := h
  have h3 : Try.prog.cellsOf 3 = 1 := by kernel_rfl
  rw [h3, hc] at hy
  obtain ⟨n, hcs, _⟩ := DataW.trod_int Try.underlying3 hy
  exact ⟨n, by simpa using hcs⟩

theorem len3 {cs : List Value} (h : cs.length = 3) : ∃ c0 c1 c2 : Value, cs = [c0, c1, c2] := by
  match cs, h with
  | [c0, c1, c2], _ => exact ⟨c0, c1, c2, rfl⟩
theorem len4 {cs : List Value} (h : cs.length = 4) : ∃ c0 c1 c2 c3 : Value, cs = [c0, c1, c2, c3] := by
  match cs, h with
  | [c0, c1, c2, c3], _ => exact ⟨c0, c1, c2, c3, rfl⟩
theorem len6 {cs : List Value} (h : cs.length = 6) : ∃ c0 c1 c2 c3 c4 c5 : Value, cs = [c0, c1, c2, c3, c4, c5] := by
  match cs, h with
  | [c0, c1, c2, c3, c4, c5], _ => exact ⟨c0, c1, c2, c3, c4, c5, rfl⟩
theorem len8 {cs : List Value} (h : cs.length = 8) : ∃ c0 c1 c2 c3 c4 c5 c6 c7 : Value, cs = [c0, c1, c2, c3, c4, c5, c6, c7] := by
  match cs, h with
  | [c0, c1, c2, c3, c4, c5, c6, c7], _ => exact ⟨c0, c1, c2, c3, c4, c5, c6, c7, rfl⟩
theorem opens65 : Opens k65 65 := by
  refine ⟨by kernel_rfl, fun H enc w base spare held fuel cs x h => ?_⟩
  obtain ⟨hl, hf⟩ := fields_of Try.underlying65 h
  have hc : Try.prog.cellsOf 65 = 4 := by kernel_rfl
  rw [hc] at hl
  obtain ⟨c0, c1, c2, c3, rfl⟩ := len4 hl
  obtain ⟨n0, rfl⟩ := int_field (o := 0) rfl (hf 0 _ rfl)
  obtain ⟨n1, rfl⟩ := int_field (o := 1) rfl (hf 1 _ rfl)
  obtain ⟨n2, rfl⟩ := int_field (o := 2) rfl (hf 2 _ rfl)
  obtain ⟨n3, rfl⟩ := int_field (o := 3) rfl (hf 3 _ rfl)
  exact ⟨⟨n0, n1, n2, n3⟩, k65_mk w ⟨n0, n1, n2, n3⟩⟩
theorem opens50 : Opens k50 50 := by
  refine ⟨by kernel_rfl, fun H enc w base spare held fuel cs x h => ?_⟩
  obtain ⟨hl, hf⟩ := fields_of Try.underlying50 h
  have hc : Try.prog.cellsOf 50 = 3 := by kernel_rfl
  rw [hc] at hl
  obtain ⟨c0, c1, c2, rfl⟩ := len3 hl
  obtain ⟨n0, rfl⟩ := int_field (o := 0) rfl (hf 0 _ rfl)
  obtain ⟨n1, rfl⟩ := int_field (o := 1) rfl (hf 1 _ rfl)
  obtain ⟨n2, rfl⟩ := int_field (o := 2) rfl (hf 2 _ rfl)
  exact ⟨⟨n0, n1, n2⟩, k50_mk w ⟨n0, n1, n2⟩⟩
theorem cells55 {H : Type} {enc : TypeId × Value → H} {w : World} {base : Nat} {spare : Nat → Bool} {held : Bool} {fuel : Nat} {cs : List Value} {x : DataW H × List MemPlace} (h : DataW.trod enc Try.prog w base spare held fuel 55 cs = some x) :
    ∃ y : S55, cs = [.int .i64 y.f0, .int .i64 y.f1, .int .i64 y.f2, .int .i64 y.f3, .int .i64 y.f4, .int .i64 y.f5] := by
  obtain ⟨hl, hf⟩ := fields_of Try.underlying55 h
  have hc : Try.prog.cellsOf 55 = 6 := by kernel_rfl
  rw [hc] at hl
  obtain ⟨c0, c1, c2, c3, c4, c5, rfl⟩ := len6 hl
  obtain ⟨n0, rfl⟩ := int_field (o := 0) rfl (hf 0 _ rfl)
  obtain ⟨n1, rfl⟩ := int_field (o := 1) rfl (hf 1 _ rfl)
  obtain ⟨n2, rfl⟩ := int_field (o := 2) rfl (hf 2 _ rfl)
  obtain ⟨n3, rfl⟩ := int_field (o := 3) rfl (hf 3 _ rfl)
  obtain ⟨n4, rfl⟩ := int_field (o := 4) rfl (hf 4 _ rfl)
  obtain ⟨n5, rfl⟩ := int_field (o := 5) rfl (hf 5 _ rfl)
  exact ⟨⟨n0, n1, n2, n3, n4, n5⟩, rfl⟩
theorem opens55 : Opens k55 55 := by
  refine ⟨by kernel_rfl, fun H enc w base spare held fuel cs x h => ?_⟩
  obtain ⟨y, rfl⟩ := cells55 h
  exact ⟨y, k55_mk w y⟩
theorem opens61 : Opens k61 61 := by
  refine ⟨by kernel_rfl, fun H enc w base spare held fuel cs x h => ?_⟩
  obtain ⟨hl, hf⟩ := fields_of Try.underlying61 h
  have hc : Try.prog.cellsOf 61 = 8 := by kernel_rfl
  rw [hc] at hl
  obtain ⟨c0, c1, c2, c3, c4, c5, c6, c7, rfl⟩ := len8 hl
  obtain ⟨m, y, hy⟩ := hf 0 _ rfl
  have h5 : Try.prog.cellsOf 55 = 6 := by kernel_rfl
  have hy' : DataW.trod enc Try.prog w base spare held m 55 (List.take (Try.prog.cellsOf 55) [c0, c1, c2, c3, c4, c5, c6, c7]) = some y := hy
  rw [h5] at hy'
  obtain ⟨z, hz⟩ := cells55 hy'
  obtain ⟨n6, rfl⟩ := int_field (o := 6) rfl (hf 1 _ rfl)
  obtain ⟨n7, rfl⟩ := int_field (o := 7) rfl (hf 2 _ rfl)
  simp only [List.take_succ_cons, List.take_zero, List.cons.injEq, and_true] at hz
  obtain ⟨rfl, rfl, rfl, rfl, rfl, rfl⟩ := hz
  exact ⟨⟨z, n6, n7⟩, k61_mk w ⟨z, n6, n7⟩⟩
/-- The reference's land in memory. -/
structure Rv where
  st : List S65
  ri : List S55
  ca : List (List S61)
  su : List S50
  A0 : Option Addr
  A1 : Option Addr
  A2 : Option Addr
  A3 : Option Addr
  c0 : Nat
  c1 : Nat
  c2 : Nat
  c3 : Nat
def Rv.cells (L : Rv) : Array Value := #[.slice L.A0 L.st.length L.c0, .slice L.A1 L.ri.length L.c1, .slice L.A2 L.ca.length L.c2, .slice L.A3 L.su.length L.c3]
structure Rv.In (L : Rv) (w : World) : Prop where
  r0 : Kd.C k65 w L.A0 L.st.length L.st
  h0 : L.st.length ≤ L.c0
  r1 : Kd.C k55 w L.A1 L.ri.length L.ri
  h1 : L.ri.length ≤ L.c1
  r2 : Kd.C (Kd.slice 61 k61) w L.A2 L.ca.length L.ca
  h2 : L.ca.length ≤ L.c2
  r3 : Kd.C k50 w L.A3 L.su.length L.su
  h3 : L.su.length ≤ L.c3
theorem Rv.In.below {L : Rv} {w w1 : World} (h : L.In w) (hb : Below w.heap.size w w1) : L.In w1 := ⟨Kd.C_below h.r0 hb, h.h0, Kd.C_below h.r1 hb, h.h1, Kd.C_below h.r2 hb, h.h2, Kd.C_below h.r3 hb, h.h3⟩
theorem slice_field {α : Type} {d : Kd α} {q : Nat} {H : Type} {enc : TypeId × Value → H} {w : World} {base : Nat} {spare : Nat → Bool} {held : Bool} {cs : List Value} {o : Nat} {c : Value} {t : TypeId} (hop : Opens (Kd.slice q d) t) (hc : (cs.drop o).take 1 = [c])
    (h : ∃ n y, DataW.trod enc Try.prog w base spare held n t ((cs.drop o).take (Try.prog.cellsOf t)) = some y) : ∃ (xs : List α) (A : Option Addr) (k : Nat), c = .slice A xs.length k ∧ xs.length ≤ k ∧ d.C w A xs.length xs := by
  obtain ⟨m, y, hy⟩ := h
  have h1 : Try.prog.cellsOf t = 1 := hop.1
  rw [h1, hc] at hy
  obtain ⟨xs, A, k, hcs, hl, hC⟩ := hop.2 H enc w base spare held m _ _ hy
  exact ⟨xs, A, k, by simpa using hcs, hl, hC⟩
theorem opens22 : Opens (Kd.slice 65 k65) 22 := opens_slice Try.underlying22 (by kernel_rfl) 65 opens65
theorem opens23 : Opens (Kd.slice 55 k55) 23 := opens_slice Try.underlying23 (by kernel_rfl) 55 opens55
theorem opens59 : Opens (Kd.slice 61 k61) 59 := opens_slice Try.underlying59 (by kernel_rfl) 61 opens61
theorem opens24 : Opens (Kd.slice 59 (Kd.slice 61 k61)) 24 := opens_slice Try.underlying24 (by kernel_rfl) 59 opens59
theorem opens25 : Opens (Kd.slice 50 k50) 25 := opens_slice Try.underlying25 (by kernel_rfl) 50 opens50
set_option maxRecDepth 100000 in
theorem open_land {H : Type} {enc : TypeId × Value → H} {w : World} {base : Nat} {spare : Nat → Bool} {held : Bool} {r : Reach} {b0 : Nat} {v : Value} {d : DataW H} {p : List MemPlace}
    (hv : Value.okWide Try.prog w r b0 27 v) (h : DataW.Trod enc Try.prog w base spare held 27 v d p) : ∃ R : Rv, v = .agg R.cells ∧ R.In w := by
  have hu := Try.underlying27
  obtain ⟨cs, rfl, hsz⟩ : ∃ cs, v = .agg cs ∧ cs.size = Try.prog.cellsOf 27 := by
    generalize Try.prog = P at hu hv ⊢
    exact WideShapes.okWide_struct hu hv
  obtain ⟨fuel, h⟩ := h
  obtain ⟨cs⟩ := cs
  have hl : cs.length = 4 := hsz.trans (by kernel_rfl)
  obtain ⟨c0, c1, c2, c3, rfl⟩ := len4 hl
  have h' : DataW.trod enc Try.prog w base spare held fuel 27 [c0, c1, c2, c3] = some (d, p) := h
  obtain ⟨_, hf⟩ := fields_of Try.underlying27 h'
  obtain ⟨x0, A0, k0, rfl, l0, C0⟩ := slice_field (o := 0) opens22 rfl (hf 0 _ rfl)
  obtain ⟨x1, A1, k1, rfl, l1, C1⟩ := slice_field (o := 1) opens23 rfl (hf 1 _ rfl)
  obtain ⟨x2, A2, k2, rfl, l2, C2⟩ := slice_field (o := 2) opens24 rfl (hf 2 _ rfl)
  obtain ⟨x3, A3, k3, rfl, l3, C3⟩ := slice_field (o := 3) opens25 rfl (hf 3 _ rfl)
  exact ⟨⟨x0, x1, x2, x3, A0, A1, A2, A3, k0, k1, k2, k3⟩, rfl, C0, l0, C1, l1, C2, l2, C3, l3⟩
set_option maxRecDepth 100000 in
theorem open_wall {H : Type} {enc : TypeId × Value → H} {w : World} {base : Nat} {spare : Nat → Bool} {held : Bool} {r : Reach} {b0 : Nat} {v : Value} {d : DataW H} {p : List MemPlace}
    (hv : Value.okWide Try.prog w r b0 55 v) (h : DataW.Trod enc Try.prog w base spare held 55 v d p) : ∃ x : S55, v = .agg #[.int .i64 x.f0, .int .i64 x.f1, .int .i64 x.f2, .int .i64 x.f3, .int .i64 x.f4, .int .i64 x.f5] := by
  have hu := Try.underlying55
  obtain ⟨cs, rfl, hsz⟩ : ∃ cs, v = .agg cs ∧ cs.size = Try.prog.cellsOf 55 := by
    generalize Try.prog = P at hu hv ⊢
    exact WideShapes.okWide_struct hu hv
  obtain ⟨fuel, h⟩ := h
  obtain ⟨cs⟩ := cs
  have h' : DataW.trod enc Try.prog w base spare held fuel 55 cs = some (d, p) := h
  obtain ⟨x, rfl⟩ := cells55 h'
  exact ⟨x, rfl⟩
end Go.Proofs.Ytkbdphjnpieceaa.G
