/- Contracts of the closures of hill.Rise, of slices.Min, smallest. -/
import Derived.Test.YtkbdphjnpieceaaH21
namespace Go.Proofs.Ytkbdphjnpieceaa.G
open Go.RowKit Go.Proofs.YtkbdphjnpieceaaW.PrintWords Go.Proofs.YtkbdphjnpieceaaW.PrintLast Go.Proofs.YtkbdphjnpieceaaW.PrintMore
open Go.Sort (grow)
set_option linter.unusedVariables false
set_option linter.unusedSimpArgs false

theorem rise11_c (x : S86) (s t : S85) (b1' b2 : Nat) (hx : okWl x) (hs : okSt s) (ht : okSt t) (w : World)
    (q1 : w.heap[b1']? = some (.cells #[.int .i64 s.f0, .int .i64 s.f1, .int .i64 s.f2, .int .i64 s.f3] 85 (0, 0))) (q2 : w.heap[b2]? = some (.cells #[.int .i64 t.f0, .int .i64 t.f1, .int .i64 t.f2, .int .i64 t.f3] 85 (0, 0))) :
    Calls Try.prog 55 #[.agg #[.int .i64 x.f0, .int .i64 x.f1, .int .i64 x.f2, .int .i64 x.f3, .int .i64 x.f4, .int .i64 x.f5], .pointer (some ⟨b1', 0, none⟩), .pointer (some ⟨b2, 0, none⟩)] w
      fun e w' => e = .returned (.bool (!blocksB x s t)) ∧ Below w.heap.size w w' := by
  have HC := Aside0.mk fun W => blocks_c x s t hx hs ht W
  have hb := b1 w (.cells #[.int .i64 x.f0, .int .i64 x.f1, .int .i64 x.f2, .int .i64 x.f3, .int .i64 x.f4, .int .i64 x.f5] 86)
  have a0 := cb hb ((blk_cell q1 0).trans rfl)
  have a1 := cb hb ((blk_cell q1 1).trans rfl)
  have a2 := cb hb ((blk_cell q1 2).trans rfl)
  have a3 := cb hb ((blk_cell q1 3).trans rfl)
  have c0 := cb hb ((blk_cell q2 0).trans rfl)
  have c1 := cb hb ((blk_cell q2 1).trans rfl)
  have c2 := cb hb ((blk_cell q2 2).trans rfl)
  have c3 := cb hb ((blk_cell q2 3).trans rfl)
  clear q1 q2
  go_enter Try.func55, Try.ntmps55
  go_wp2_with fail
  refine (HC.out _).mono ?_
  rintro e w1 ⟨rfl, hb1⟩
  have HB := Aside0.mk (bt hb hb1)
  clear hb hb1 a0 a1 a2 a3 c0 c1 c2 c3
  go_wp2_with fail
  go_ret
  exact ⟨rfl, HB.out⟩

/-- Free of ridges, so much higher. -/
def upS (s : S85) (n : Int) : S85 := ⟨s.f0, s.f1, s.f2 + n, s.f3⟩
def freeB (L : Lv) (s t : S85) (n : Int) : Bool := L.ri.all fun x => !blocksB x (upS s n) t

set_option maxHeartbeats 1000000 in
theorem rise1_c (L : Lv) (s t : S85) (n : Int) (b1' b2 b3 : Nat) (w : World) (hL : L.In w) (hr : ∀ x ∈ L.ri, okWl x) (hs : okSt s) (hs2 : okSt (upS s n)) (ht : okSt t)
    (q1 : w.heap[b1']? = some (.cells #[.int .i64 s.f0, .int .i64 s.f1, .int .i64 s.f2, .int .i64 s.f3] 85 (0, 0))) (q2 : w.heap[b2]? = some (.cells #[.slice L.A0 L.st.length L.c0, .slice L.A1 L.ri.length L.c1, .slice L.A2 L.ca.length L.c2, .slice L.A3 L.su.length L.c3] 39 (0, 0)))
    (q3 : w.heap[b3]? = some (.cells #[.int .i64 t.f0, .int .i64 t.f1, .int .i64 t.f2, .int .i64 t.f3] 85 (0, 0))) :
    Calls Try.prog 53 #[.int .i64 n, .pointer (some ⟨b1', 0, none⟩), .pointer (some ⟨b2, 0, none⟩), .pointer (some ⟨b3, 0, none⟩)] w fun e w' => e = .returned (.bool (freeB L s t n)) ∧ Below w.heap.size w w' := by
  have hw := wr64 (n := s.f2 + n) (by have := hs2.2.2; simp only [upS] at this; omega) (by have := hs2.2.2; simp only [upS] at this; omega)
  have HQ := Aside0.mk (And.intro q2 q3)
  have HLA := Aside0.mk (And.intro hL.r1 hL.r1.2.1)
  have HO := Aside0.mk (And.intro hr (And.intro hs2 ht))
  have a0 := (blk_cell q1 0).trans rfl
  have a1 := (blk_cell q1 1).trans rfl
  have a2 := (blk_cell q1 2).trans rfl
  have a3 := (blk_cell q1 3).trans rfl
  have hb := b1 w (.cells #[.int .i64 s.f0, .int .i64 s.f1, .int .i64 (s.f2 + n), .int .i64 s.f3] 85)
  have hbx := blk_new w (.cells #[.int .i64 s.f0, .int .i64 s.f1, .int .i64 (s.f2 + n), .int .i64 s.f3] 85)
  have d1 := cb hb ((blk_cell q2 1).trans rfl)
  clear q1 q2 q3 hL hr hs2 ht
  go_enter Try.func53, Try.ntmps53
  go_wp2_with fail
  refine (all86 55 #[] #[.pointer (some ⟨w.heap.size, 0, none⟩), .pointer (some ⟨b3, 0, none⟩)] (enters_of Try.func55 (by kernel_rfl) rfl) (fun x => !blocksB x (upS s n) t) L.A1 L.c1 L.ri _ (Kd.C_below HLA.out.1 hb) HLA.out.2 (fun W x hx hW => ?_)).mono ?_
  · exact rise11_c x (upS s n) t w.heap.size b3 (HO.out.1 x hx) HO.out.2.1 HO.out.2.2 W (blk_below hbx hW) (blk_below (blk_below HQ.out.2 hb) hW)
  · rintro e w1 ⟨rfl, hb1⟩
    have HB := Aside0.mk (bt hb hb1)
    clear hb hb1 hbx
    go_wp2_with fail
    go_ret
    exact ⟨rfl, HB.out⟩

attribute [local go_sem] max2_int min2_int max_two min_two
set_option maxHeartbeats 1000000 in
/-- slices.Min of two. -/
theorem min2_c (A : Addr) (c : Nat) (x y : Int) (w : World) (h0 : w.cell? A = some (.int .i64 x)) (h1 : w.cell? ⟨A.block, A.off + 1, none⟩ = some (.int .i64 y)) :
    Calls Try.prog 90 #[.slice (some A) 2 c] w fun e w' => e = .returned (.int .i64 (min x y)) ∧ Below w.heap.size w w' := by
  have h1' : w.cell? (A.add 1) = some (.int .i64 y) := h1
  go_enter Try.func90, Try.ntmps90
  go_wp2_with fail
  refine wp_loop_rounds 2 ?_
  rw [rounds_succ]
  go_wp2_with fail
  all_goals
    rw [rounds_succ]
    go_wp2_with fail
    go_ret
    exact ⟨ret_i64 (by show _ = min x y; omega), Below.refl _ _⟩
theorem smallest_c (A : Addr) (c : Nat) (x y : Int) (w : World) (h0 : w.cell? A = some (.int .i64 x)) (h1 : w.cell? ⟨A.block, A.off + 1, none⟩ = some (.int .i64 y)) :
    Calls Try.prog 57 #[.slice (some A) 2 c] w fun e w' => e = .returned (.int .i64 (min x y)) ∧ Below w.heap.size w w' := by
  have HC := Aside0.mk (min2_c A c x y w h0 h1)
  clear h0 h1
  go_enter Try.func57, Try.ntmps57
  go_wp2_with fail
  refine HC.out.mono ?_
  rintro e w1 ⟨rfl, hb⟩
  go_wp2_with fail
  go_ret
  exact ⟨rfl, hb⟩

end Go.Proofs.Ytkbdphjnpieceaa.G
