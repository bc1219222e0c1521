/- The law's Land, of a thin land. -/
import Derived.Test.YtkbdphjnpieceaaL2
import Derived.Test.YtkbdphjnpieceaaGx13
namespace Go.Proofs.Ytkbdphjnpieceaa.G
open Go.RowKit Go.Proofs.YtkbdphjnpieceaaW.PrintWords Go.Proofs.YtkbdphjnpieceaaW.PrintLast Go.Proofs.YtkbdphjnpieceaaW.PrintMore
set_option linter.unusedVariables false
set_option linter.unusedSimpArgs false

theorem drop_rd {α : Type} (xs : List α) (z : α) (i : Nat) (h : i < xs.length) : xs.drop i = xs.getD i z :: xs.drop (i + 1) := by
  rw [List.drop_eq_getElem_cons h, List.getD_eq_getElem?_getD, List.getElem?_eq_getElem h]
  rfl
theorem land3_run (st : List S65) (ri : List S55) (ca : List (List S61)) (su : List S50) (a0 : List S85) (a1 : List S86) (a2 : List (List S88)) (hl : su.length ≤ 1000) :
    ∀ (d i k : Nat) (acc : List S99), i + d = su.length → d < k → acc.length ≤ i → glisterlaw01_Land.l3 k i st ri ca su a0 a1 a2 acc = some (a0, a1, a2, acc ++ (su.drop i).map cSu) := by
  intro d
  induction d with
  | zero =>
    intro i k acc hi hk _
    obtain ⟨k, rfl⟩ : ∃ m, k = m + 1 := ⟨k - 1, by omega⟩
    simp only [glisterlaw01_Land.l3]
    rw [if_neg (by omega), List.drop_of_length_le (by omega)]
    simp
  | succ d ih =>
    intro i k acc hi hk ha
    obtain ⟨k, rfl⟩ : ∃ m, k = m + 1 := ⟨k - 1, by omega⟩
    simp only [glisterlaw01_Land.l3]
    rw [if_pos (by omega), if_pos (by omega), if_pos (by omega)]
    have hw : wrap64 ((i : Int) + 1) = ((i + 1 : Nat) : Int) := by rw [wr64 (by omega) (by omega)]; rfl
    rw [hw, ih (i + 1) k _ (by omega) (by omega) (by simp; omega), drop_rd su z50 i (by omega)]
    simp only [rd_T50, Int.toNat_natCast, List.map_cons, List.append_assoc, List.singleton_append]
    rfl
theorem clouds_run (cs : List S61) (hl : cs.length ≤ 1000) :
    ∀ (d i k : Nat) (acc : List S88), i + d = cs.length → d < k → acc.length ≤ i → glisterlaw01_clouds.l0 k cs acc i = some (acc ++ (cs.drop i).map cCl) := by
  intro d
  induction d with
  | zero =>
    intro i k acc hi hk _
    obtain ⟨k, rfl⟩ : ∃ m, k = m + 1 := ⟨k - 1, by omega⟩
    simp only [glisterlaw01_clouds.l0]
    rw [if_neg (by omega), List.drop_of_length_le (by omega)]
    simp
  | succ d ih =>
    intro i k acc hi hk ha
    obtain ⟨k, rfl⟩ : ∃ m, k = m + 1 := ⟨k - 1, by omega⟩
    simp only [glisterlaw01_clouds.l0]
    rw [if_pos (by omega), if_pos (by omega)]
    simp only [glisterlaw01_wall.f, Option.bind_some]
    rw [if_pos (by omega)]
    have hw : wrap64 ((i : Int) + 1) = ((i + 1 : Nat) : Int) := by rw [wr64 (by omega) (by omega)]; rfl
    rw [hw, ih (i + 1) k _ (by omega) (by omega) (by simp; omega), drop_rd cs z61 i (by omega)]
    simp only [rd_T61, Int.toNat_natCast, List.map_cons, List.append_assoc, List.singleton_append]
    rfl
theorem land2_run (st : List S65) (ri : List S55) (ca : List (List S61)) (su : List S50) (a0 : List S85) (a1 : List S86) (hl : su.length ≤ 1000) (hc : ca.length ≤ 1000) (hcc : ∀ j : Nat, j < ca.length → (ca.getD j []).length ≤ 1000) :
    ∀ (d i k : Nat) (acc : List (List S88)), i + d = ca.length → d + 1010 < k → acc.length ≤ i → glisterlaw01_Land.l2 k i st ri ca su a0 a1 acc = some (a0, a1, acc ++ (ca.drop i).map (·.map cCl), su.map cSu) := by
  intro d
  induction d with
  | zero =>
    intro i k acc hi hk _
    obtain ⟨k, rfl⟩ : ∃ m, k = m + 1 := ⟨k - 1, by omega⟩
    simp only [glisterlaw01_Land.l2]
    rw [if_neg (by omega), List.drop_of_length_le (by omega)]
    have := land3_run st ri ca su a0 a1 acc hl su.length 0 k [] (by omega) (by omega) (by simp)
    rw [show ((0 : Nat) : Int) = 0 from rfl] at this
    rw [this]
    simp
  | succ d ih =>
    intro i k acc hi hk ha
    obtain ⟨k, rfl⟩ : ∃ m, k = m + 1 := ⟨k - 1, by omega⟩
    simp only [glisterlaw01_Land.l2]
    rw [if_pos (by omega), if_pos (by omega)]
    have hcl : glisterlaw01_clouds.f k (rd_L3 ca i) = some ((rd_L3 ca i).map cCl) := by
      unfold glisterlaw01_clouds.f
      have h1 := hcc i (by omega)
      have := clouds_run (rd_L3 ca i) (by simpa [rd_L3] using h1) (rd_L3 ca i).length 0 k [] (by omega) (by simp only [rd_L3, Int.toNat_natCast]; omega) (by simp)
      rw [show ((0 : Nat) : Int) = 0 from rfl] at this
      rw [this]
      simp
    rw [hcl, Option.bind_some, if_pos (by omega)]
    have hw : wrap64 ((i : Int) + 1) = ((i + 1 : Nat) : Int) := by rw [wr64 (by omega) (by omega)]; rfl
    rw [hw, ih (i + 1) k _ (by omega) (by omega) (by simp; omega), drop_rd ca [] i (by omega)]
    simp only [rd_L3, Int.toNat_natCast, List.map_cons, List.append_assoc, List.singleton_append]
theorem land1_run (st : List S65) (ri : List S55) (ca : List (List S61)) (su : List S50) (a0 : List S85) (hr : ri.length ≤ 1000) (hl : su.length ≤ 1000) (hc : ca.length ≤ 1000) (hcc : ∀ j : Nat, j < ca.length → (ca.getD j []).length ≤ 1000) :
    ∀ (d i k : Nat) (acc : List S86), i + d = ri.length → d + 2020 < k → acc.length ≤ i → glisterlaw01_Land.l1 k i st ri ca su a0 acc = some (a0, acc ++ (ri.drop i).map cWl, ca.map (·.map cCl), su.map cSu) := by
  intro d
  induction d with
  | zero =>
    intro i k acc hi hk _
    obtain ⟨k, rfl⟩ : ∃ m, k = m + 1 := ⟨k - 1, by omega⟩
    simp only [glisterlaw01_Land.l1]
    rw [if_neg (by omega), List.drop_of_length_le (by omega)]
    have := land2_run st ri ca su a0 acc hl hc hcc ca.length 0 k [] (by omega) (by omega) (by simp)
    rw [show ((0 : Nat) : Int) = 0 from rfl] at this
    rw [this]
    simp
  | succ d ih =>
    intro i k acc hi hk ha
    obtain ⟨k, rfl⟩ : ∃ m, k = m + 1 := ⟨k - 1, by omega⟩
    simp only [glisterlaw01_Land.l1]
    rw [if_pos (by omega), if_pos (by omega)]
    simp only [glisterlaw01_wall.f, Option.bind_some]
    rw [if_pos (by omega)]
    have hw : wrap64 ((i : Int) + 1) = ((i + 1 : Nat) : Int) := by rw [wr64 (by omega) (by omega)]; rfl
    rw [hw, ih (i + 1) k _ (by omega) (by omega) (by simp; omega), drop_rd ri z55 i (by omega)]
    simp only [rd_T55, Int.toNat_natCast, List.map_cons, List.append_assoc, List.singleton_append]
    rfl
theorem land0_run (st : List S65) (ri : List S55) (ca : List (List S61)) (su : List S50) (hs : st.length ≤ 1000) (hr : ri.length ≤ 1000) (hl : su.length ≤ 1000) (hc : ca.length ≤ 1000) (hcc : ∀ j : Nat, j < ca.length → (ca.getD j []).length ≤ 1000) :
    ∀ (d i k : Nat) (acc : List S85), i + d = st.length → d + 3030 < k → acc.length ≤ i → glisterlaw01_Land.l0 k i st ri ca su acc = some (acc ++ (st.drop i).map cSt, ri.map cWl, ca.map (·.map cCl), su.map cSu) := by
  intro d
  induction d with
  | zero =>
    intro i k acc hi hk _
    obtain ⟨k, rfl⟩ : ∃ m, k = m + 1 := ⟨k - 1, by omega⟩
    simp only [glisterlaw01_Land.l0]
    rw [if_neg (by omega), List.drop_of_length_le (by omega)]
    have := land1_run st ri ca su acc hr hl hc hcc ri.length 0 k [] (by omega) (by omega) (by simp)
    rw [show ((0 : Nat) : Int) = 0 from rfl] at this
    rw [this]
    simp
  | succ d ih =>
    intro i k acc hi hk ha
    obtain ⟨k, rfl⟩ : ∃ m, k = m + 1 := ⟨k - 1, by omega⟩
    simp only [glisterlaw01_Land.l0]
    rw [if_pos (by omega), if_pos (by omega), if_pos (by omega)]
    have hw : wrap64 ((i : Int) + 1) = ((i + 1 : Nat) : Int) := by rw [wr64 (by omega) (by omega)]; rfl
    rw [hw, ih (i + 1) k _ (by omega) (by omega) (by simp; omega), drop_rd st z65 i (by omega)]
    simp only [rd_T65, Int.toNat_natCast, List.map_cons, List.append_assoc, List.singleton_append]
    rfl
/-- Lists of no great length. -/
structure Rv.Few (R : Rv) : Prop where
  s : R.st.length ≤ 1000
  r : R.ri.length ≤ 1000
  u : R.su.length ≤ 1000
  c : R.ca.length ≤ 1000
  cc : ∀ j : Nat, j < R.ca.length → (R.ca.getD j []).length ≤ 1000
theorem land_c (R : Rv) (w : World) (hI : R.In w) (hF : R.Few) :
    Calls Try.prog 20 #[.agg R.cells] w fun e w' => ∃ A0 A1 A2 A3 c0 c1 c2 c3, e = .returned (.agg (R.at A0 A1 A2 A3 c0 c1 c2 c3).cells) ∧ (R.at A0 A1 A2 A3 c0 c1 c2 c3).In w' ∧ Below w.heap.size w w' := by
  have hrun : glisterlaw01_Land.f 5000 R.st R.ri R.ca R.su = some (R.st.map cSt, R.ri.map cWl, R.ca.map (·.map cCl), R.su.map cSu) := by
    unfold glisterlaw01_Land.f
    have h1 := hF.s
    have := land0_run R.st R.ri R.ca R.su hF.s hF.r hF.u hF.c hF.cc R.st.length 0 5000 [] (by omega) (by omega) (by simp)
    rw [show ((0 : Nat) : Int) = 0 from rfl] at this
    rw [this]
    simp
  refine (glisterlaw01_Land.calls 5000 R.A0 R.c0 R.st R.A1 R.c1 R.ri R.A2 R.c2 R.ca R.A3 R.c3 R.su _ _ _ _ w hI.r0 hI.h0 hI.r1 hI.h1 hI.r2 hI.h2 hI.r3 hI.h3 hrun).mono ?_
  rintro e w' ⟨v0, v1, v2, v3, rfl, h0, h1, h2, h3, hb⟩
  obtain ⟨A0, c0, rfl, l0, C0⟩ := Kd.R_reads h0
  obtain ⟨A1, c1, rfl, l1, C1⟩ := Kd.R_reads h1
  obtain ⟨A2, c2, rfl, l2, C2⟩ := Kd.S_reads h2
  obtain ⟨A3, c3, rfl, l3, C3⟩ := Kd.R_reads h3
  exact ⟨A0, A1, A2, A3, c0, c1, c2, c3, rfl, ⟨C0, l0, C1, C2, C3⟩, hb⟩
end Go.Proofs.Ytkbdphjnpieceaa.G
