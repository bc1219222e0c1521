/- The reference's Walls, Why, Can over a land. -/
import Derived.Test.YtkbdphjnpieceaaR3
import Derived.BigRegion
import Derived.Deep.DeepCutAuto
namespace Go.Proofs.Ytkbdphjnpieceaa.G
open Go.RowKit Go.Proofs.YtkbdphjnpieceaaW.PrintWords Go.Proofs.YtkbdphjnpieceaaW.PrintLast Go.Proofs.YtkbdphjnpieceaaW.PrintMore
open Go.Sort (grow)
set_option linter.unusedVariables false
set_option linter.unusedSimpArgs false

def behind.T1 : Bool × List (List Nat × List Nat) := (true, [([], []), ([0], [0]), ([], []), ([1, 2], [1, 2]), ([3], [3]), ([], []), ([5], [5]), ([], []), ([6, 7], [6, 7]), ([8], [8]), ([], []), ([10], [10]), ([], []), ([11, 12], [11, 12]), ([13], [13]), ([], []), ([], []), ([], []), ([15, 4, 0, 1, 2, 3, 4, 15, 16, 17], [4, 15]), ([16, 9, 18, 0, 1, 2, 3, 4, 5, 6, 7, 8, 9, 15, 16, 17, 18], [9, 16]), ([17, 14, 19, 0, 1, 2, 3, 4, 5, 6, 7, 8, 9, 10, 11, 12, 13, 14, 15, 16, 17, 18, 19], [14, 17])])
def behind.B1 : List Nat := [0, 1, 0, 7, 15, 0, 32, 0, 224, 480, 0, 1024, 0, 7168, 15360, 0, 0, 0, 229407, 492543, 1048575]
theorem behind.tab1 : rtab .any (opsOf Try.f27 1) = behind.T1 := by kernel_rfl
theorem behind.bits1 : waitsOk behind.T1.2 behind.B1 = true := by kernel_rfl
/-- The law's fault: the reference's error as the program's. -/
theorem lfault_c (R : Rv) (w : World) (hI : R.In w) : Calls Try.prog 22 #[.agg R.cells] w fun e w' => e = .returned (.int .i64 R.lv.check) ∧ Below w.heap.size w w' := by
  have HC := Aside0.mk fun W hb => fault_c R W (hI.below hb)
  have D0 := cnew (w := w) (b := w.heap.size) (cs := R.cells) (t := 27) (i := 0) rfl rfl
  clear hI
  unfold Rv.cells at *
  go_enter Try.func22, Try.ntmps22
  go_wp2_with fail
  refine (HC.out _ (b1 _ _)).mono ?_
  rintro e w1 ⟨rfl, hb1⟩
  have HB := Aside0.mk (bt (b1 _ _) hb1)
  clear hb1
  generalize hv : R.lv.check = v at *
  have HV := Aside0.mk hv
  clear hv
  go_wp2_with fail
  go_ret
  exact ⟨ret_i64 HV.out.symm, HB.out⟩
end Go.Proofs.Ytkbdphjnpieceaa.G
namespace Go.Proofs.Ytkbdphjnpieceaa.G
open Go.RowKit Go.Proofs.YtkbdphjnpieceaaW.PrintWords Go.Proofs.YtkbdphjnpieceaaW.PrintLast Go.Proofs.YtkbdphjnpieceaaW.PrintMore
open Go.Sort (grow)
set_option linter.unusedVariables false
set_option linter.unusedSimpArgs false

theorem getD_map_ {α β : Type} (f : α → β) (xs : List α) (n : Nat) (z : α) : (xs.map f).getD n (f z) = f (xs.getD n z) := by
  simp only [List.getD_eq_getElem?_getD, List.getElem?_map]
  cases xs[n]? <;> rfl
theorem lv_st (R : Rv) (i : Int) : rd_T85 R.lv.st i = cSt (rd_T65 R.st i) := getD_map_ cSt R.st i.toNat z65
theorem lv_ca (R : Rv) (k : Int) : rd_L9 R.lv.ca k = (rd_L3 R.ca k).map cCl := getD_map_ (fun x : List S61 => x.map cCl) R.ca k.toNat []
theorem lv_len0 (R : Rv) : R.lv.st.length = R.st.length := List.length_map ..
theorem lv_len1 (R : Rv) : R.lv.ri.length = R.ri.length := List.length_map ..
theorem lv_len2 (R : Rv) : R.lv.ca.length = R.ca.length := List.length_map ..
theorem lv_len3 (R : Rv) : R.lv.su.length = R.su.length := List.length_map ..
/-- Stations, a case and an hour of a land. -/
structure Lv.At (L : Lv) (f t k h : Int) : Prop where
  f0 : 0 ≤ f
  f1 : f < L.st.length
  t0 : 0 ≤ t
  t1 : t < L.st.length
  k0 : 0 ≤ k
  k1 : k < L.ca.length
  h0 : 0 ≤ h
  h1 : h < L.su.length

end Go.Proofs.Ytkbdphjnpieceaa.G
