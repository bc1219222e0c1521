/- Contract of CheckLand. -/
import Derived.Test.YtkbdphjnpieceaaH3
import Derived.Laws.EntriesVeiled
namespace Go.Proofs.Ytkbdphjnpieceaa.G
open Go.RowKit Go.Proofs.YtkbdphjnpieceaaW.PrintWords Go.Proofs.YtkbdphjnpieceaaW.PrintLast Go.Proofs.YtkbdphjnpieceaaW.PrintMore
set_option linter.unusedVariables false
set_option linter.unusedSimpArgs false

def fewB (k : List S88) : Bool := decide ((k.length : Int) ≤ 4)
/-- The error of a land. -/
def checkF (st : List S85) (ri : List S86) (ca : List (List S88)) (su : List S99) : Int :=
  if 6 < (st.length : Int) then 3 else if 6 < (ri.length : Int) then 3 else if 4 < (ca.length : Int) then 3 else if 12 < (su.length : Int) then 3 else if ca.all fewB = false then 3
  else if (st.length : Int) = 0 then 1 else if (ca.length : Int) = 0 then 1 else if (su.length : Int) = 0 then 1 else if st.all stOK = false then 1 else if apartB st = false then 1 else if ri.all ridgeOK = false then 1
  else if (ca.all fun k => k.all (cloudOK su.length)) = false then 1 else if su.all sunOK = false then 1 else 0

theorem few_c (A : Option Addr) (x : List S88) (c : Nat) (w : World) : Calls Try.prog 69 #[.slice A x.length c] w fun e w' => e = .returned (.bool (fewB x)) ∧ Below w.heap.size w w' := by
  go_enter Try.func69, Try.ntmps69
  go_wp2
  go_ret
  exact ⟨ret_bool rfl, Below.refl _ _⟩

theorem st_c (x : S85) (w : World) : Calls Try.prog 74 #[.agg #[.int .i64 x.f0, .int .i64 x.f1, .int .i64 x.f2, .int .i64 x.f3]] w fun e w' => e = .returned (.bool (stOK x)) ∧ Below w.heap.size w w' := stvalid_c x.f0 x.f1 x.f2 x.f3 w

theorem cls_c (A0 A1 A2 A3 : Option Addr) (n0 n1 n2 n3 c0 c1 c2 c3 B : Nat) (A : Option Addr) (x : List S88) (c : Nat) (w : World) (hr : k88.C w A x.length x)
    (hc : w.cell? ⟨B, 0, none⟩ = some (.func (.func 68) #[.agg #[.slice A0 n0 c0, .slice A1 n1 c1, .slice A2 n2 c2, .slice A3 n3 c3]] #[])) :
    Calls Try.prog 70 #[.slice A x.length c, .pointer (some ⟨B, 0, none⟩)] w fun e w' => e = .returned (.bool (x.all (cloudOK n3))) ∧ Below w.heap.size w w' := by
  have H := Aside0.mk (all88 68 #[.agg #[.slice A0 n0 c0, .slice A1 n1 c1, .slice A2 n2 c2, .slice A3 n3 c3]] #[] (enters_of Try.func68 (by kernel_rfl) rfl) (cloudOK n3) A c x w hr hr.2.1 (fun W y _ _ => cloud_c y A0 A1 A2 A3 n0 n1 n2 n3 c0 c1 c2 c3 W))
  clear hr
  go_enter Try.func70, Try.ntmps70
  go_wp2_with (go_at_call 71; refine H.out.mono ?_; rintro e w' ⟨rfl, hb'⟩)
  go_ret
  exact ⟨rfl, hb'⟩

set_option maxHeartbeats 2000000 in
theorem check_c (st : List S85) (ri : List S86) (ca : List (List S88)) (su : List S99) (A0 A1 A2 A3 : Option Addr) (c0 c1 c2 c3 : Nat) (w : World)
    (hr0 : Kd.C k85 w A0 st.length st) (hc0 : st.length ≤ c0) (hr1 : Kd.C k86 w A1 ri.length ri) (hr2 : Kd.C (Kd.slice 88 k88) w A2 ca.length ca) (hr3 : Kd.C k99 w A3 su.length su) :
    Calls Try.prog 41 #[.agg #[.slice A0 st.length c0, .slice A1 ri.length c1, .slice A2 ca.length c2, .slice A3 su.length c3]] w fun e w' => e = .returned (.int .i64 (checkF st ri ca su)) ∧ Below w.heap.size w w' := by
  have hb0 := below_alloc (b1 w (.cells #[.slice A0 st.length c0, .slice A1 ri.length c1, .slice A2 ca.length c2, .slice A3 su.length c3] 39)) (.cells #[.func (.func 68) #[.agg #[.slice A0 st.length c0, .slice A1 ri.length c1, .slice A2 ca.length c2, .slice A3 su.length c3]] #[]] 117)
  have hl0 := hr0.2.1
  have hl1 := hr1.2.1
  have hl2 := hr2.2.1
  have hl3 := hr3.2.1
  have HC := Aside0.mk hc0
  clear hc0
  have HR0 := Aside0.mk hr0
  have HR1 := Aside0.mk hr1
  have HR2 := Aside0.mk hr2
  have HR3 := Aside0.mk hr3
  clear hr0 hr1 hr2 hr3
  by_cases h1 : 6 < (st.length : Int)
  · have HX : Aside0 (checkF st ri ca su = 3) := ⟨by simp only [checkF, if_pos h1]⟩
    have hd := decide_eq_true h1
    go_enter Try.func41, Try.ntmps41
    go_wp2
    go_ret
    exact ⟨ret_i64 HX.out.symm, hb0⟩
  have hd1 := decide_eq_false h1
  by_cases h2 : 6 < (ri.length : Int)
  · have HX : Aside0 (checkF st ri ca su = 3) := ⟨by simp only [checkF, if_neg h1, if_pos h2]⟩
    have hd := decide_eq_true h2
    go_enter Try.func41, Try.ntmps41
    go_wp2
    go_ret
    exact ⟨ret_i64 HX.out.symm, hb0⟩
  have hd2 := decide_eq_false h2
  by_cases h3 : 4 < (ca.length : Int)
  · have HX : Aside0 (checkF st ri ca su = 3) := ⟨by simp only [checkF, if_neg h1, if_neg h2, if_pos h3]⟩
    have hd := decide_eq_true h3
    go_enter Try.func41, Try.ntmps41
    go_wp2
    go_ret
    exact ⟨ret_i64 HX.out.symm, hb0⟩
  have hd3 := decide_eq_false h3
  by_cases h4 : 12 < (su.length : Int)
  · have HX : Aside0 (checkF st ri ca su = 3) := ⟨by simp only [checkF, if_neg h1, if_neg h2, if_neg h3, if_pos h4]⟩
    have hd := decide_eq_true h4
    go_enter Try.func41, Try.ntmps41
    go_wp2
    go_ret
    exact ⟨ret_i64 HX.out.symm, hb0⟩
  have hd4 := decide_eq_false h4
  have HE : Aside0 (checkF st ri ca su = if ca.all fewB = false then 3 else if (st.length : Int) = 0 then 1 else if (ca.length : Int) = 0 then 1 else if (su.length : Int) = 0 then 1 else if st.all stOK = false then 1 else if apartB st = false then 1 else if ri.all ridgeOK = false then 1
    else if (ca.all fun k => k.all (cloudOK su.length)) = false then 1 else if su.all sunOK = false then 1 else 0) := ⟨by simp only [checkF, if_neg h1, if_neg h2, if_neg h3, if_neg h4]⟩
  clear h1 h2 h3 h4
  obtain ⟨W, hW⟩ : ∃ W, W = (w.alloc (.cells #[.slice A0 st.length c0, .slice A1 ri.length c1, .slice A2 ca.length c2, .slice A3 su.length c3] 39)).alloc (.cells #[.func (.func 68) #[.agg #[.slice A0 st.length c0, .slice A1 ri.length c1, .slice A2 ca.length c2, .slice A3 su.length c3]] #[]] 117) := ⟨_, rfl⟩
  have d0 : W.cell? ⟨w.heap.size, 0, none⟩ = some (.slice A0 st.length c0) := by rw [hW]; simp
  have d1 : W.cell? ⟨w.heap.size, 1, none⟩ = some (.slice A1 ri.length c1) := by rw [hW]; simp
  have d2 : W.cell? ⟨w.heap.size, 2, none⟩ = some (.slice A2 ca.length c2) := by rw [hW]; simp
  have d3 : W.cell? ⟨w.heap.size, 3, none⟩ = some (.slice A3 su.length c3) := by rw [hW]; simp
  have HF : Aside0 (W.cell? ⟨w.heap.size + 1, 0, none⟩ = some (.func (.func 68) #[.agg #[.slice A0 st.length c0, .slice A1 ri.length c1, .slice A2 ca.length c2, .slice A3 su.length c3]] #[])) := ⟨by rw [hW]; simp⟩
  rw [← hW] at hb0
  have HW := Aside0.mk hW
  clear hW
  have HB := Aside0.mk hb0
  clear hb0
  have q1 := Aside0.mk (fun W (hW : Below w.heap.size w W) => all89 69 #[] #[] (enters_of Try.func69 (by kernel_rfl) rfl) fewB A2 c2 ca W (Kd.C_below HR2.out hW) hl2 (fun W x A0 c0 _ _ _ _ => few_c A0 x c0 W))
  have q2 := Aside0.mk (fun W (hW : Below w.heap.size w W) => all85 74 #[] #[] (enters_of Try.func74 (by kernel_rfl) rfl) stOK A0 c0 st W (Kd.C_below HR0.out hW) hl0 (fun W x _ _ => st_c x W))
  have q3 := Aside0.mk (fun W (hW : Below w.heap.size w W) => apart_c st A0 A1 A2 A3 ri.length ca.length su.length c0 c1 c2 c3 W (Kd.C_below HR0.out hW) HC.out)
  have q4 := Aside0.mk (fun W (hW : Below w.heap.size w W) => all86 76 #[] #[] (enters_of Try.func76 (by kernel_rfl) rfl) ridgeOK A1 c1 ri W (Kd.C_below HR1.out hW) hl1 (fun W x _ _ => ridge_c x W))
  have q5 := Aside0.mk (fun W (hW : Below w.heap.size w W) (hF : W.cell? ⟨w.heap.size + 1, 0, none⟩ = some (.func (.func 68) #[.agg #[.slice A0 st.length c0, .slice A1 ri.length c1, .slice A2 ca.length c2, .slice A3 su.length c3]] #[])) => all89 70 #[] #[.pointer (some ⟨w.heap.size + 1, 0, none⟩)] (enters_of Try.func70 (by kernel_rfl) rfl) (fun k => k.all (cloudOK su.length)) A2 c2 ca W (Kd.C_below HR2.out hW) hl2 (fun W' x A c _ _ hk hb' => cls_c A0 A1 A2 A3 st.length ri.length ca.length su.length c0 c1 c2 c3 (w.heap.size + 1) A x c W' hk (cb hb' hF)))
  have q6 := Aside0.mk (fun W (hW : Below w.heap.size w W) => all99 78 #[] #[] (enters_of Try.func78 (by kernel_rfl) rfl) sunOK A3 c3 su W (Kd.C_below HR3.out hW) hl3 (fun W x _ _ => sun_c x W))
  generalize ca.all fewB = r1 at q1 HE
  generalize st.all stOK = r2 at q2 HE
  generalize apartB st = r3 at q3 HE
  generalize ri.all ridgeOK = r4 at q4 HE
  generalize (ca.all fun k => k.all (cloudOK su.length)) = r5 at q5 HE
  generalize su.all sunOK = r6 at q6 HE
  go_enter Try.func41, Try.ntmps41
  go_wp2_with fail
  rw [← HW.out]
  clear HW
  refine (q1.out _ HB.out).mono ?_
  rintro e w1 ⟨rfl, hb⟩
  replace d0 := cb hb d0
  replace d1 := cb hb d1
  replace d2 := cb hb d2
  replace d3 := cb hb d3
  replace HF := Aside0.mk (cb hb HF.out)
  replace HB := Aside0.mk (bt HB.out hb)
  clear hb q1
  cases r1
  · go_wp2_with fail
    go_ret
    exact ⟨ret_i64 (by rw [HE.out]; rfl), HB.out⟩
  by_cases g1 : (st.length : Int) = 0
  · have HG1 := Aside0.mk g1
    have gb1 : ((st.length : Int) == 0) = true := beq_iff_eq.2 g1
    clear g1
    go_wp2_with fail
    go_ret
    exact ⟨ret_i64 (by rw [HE.out]; rw [if_neg (show ¬ (true = false) by decide)]; rw [if_pos HG1.out]), HB.out⟩
  have HG1 := Aside0.mk g1
  have gb1 : ((st.length : Int) == 0) = false := beq_eq_false_iff_ne.2 g1
  clear g1
  by_cases g2 : (ca.length : Int) = 0
  · have HG2 := Aside0.mk g2
    have gb2 : ((ca.length : Int) == 0) = true := beq_iff_eq.2 g2
    clear g2
    go_wp2_with fail
    go_ret
    exact ⟨ret_i64 (by rw [HE.out]; rw [if_neg (show ¬ (true = false) by decide)]; rw [if_neg HG1.out]; rw [if_pos HG2.out]), HB.out⟩
  have HG2 := Aside0.mk g2
  have gb2 : ((ca.length : Int) == 0) = false := beq_eq_false_iff_ne.2 g2
  clear g2
  by_cases g3 : (su.length : Int) = 0
  · have HG3 := Aside0.mk g3
    have gb3 : ((su.length : Int) == 0) = true := beq_iff_eq.2 g3
    clear g3
    go_wp2_with fail
    go_ret
    exact ⟨ret_i64 (by rw [HE.out]; rw [if_neg (show ¬ (true = false) by decide)]; rw [if_neg HG1.out]; rw [if_neg HG2.out]; rw [if_pos HG3.out]), HB.out⟩
  have HG3 := Aside0.mk g3
  have gb3 : ((su.length : Int) == 0) = false := beq_eq_false_iff_ne.2 g3
  clear g3
  go_wp2_with fail
  refine (q2.out _ HB.out).mono ?_
  rintro e w1 ⟨rfl, hb⟩
  replace d0 := cb hb d0
  replace d1 := cb hb d1
  replace d2 := cb hb d2
  replace d3 := cb hb d3
  replace HF := Aside0.mk (cb hb HF.out)
  replace HB := Aside0.mk (bt HB.out hb)
  clear hb q2
  cases r2
  · go_wp2_with fail
    go_ret
    exact ⟨ret_i64 (by rw [HE.out]; rw [if_neg (show ¬ (true = false) by decide)]; rw [if_neg HG1.out]; rw [if_neg HG2.out]; rw [if_neg HG3.out]; rfl), HB.out⟩
  go_wp2_with fail
  refine (q3.out _ HB.out).mono ?_
  rintro e w1 ⟨rfl, hb⟩
  replace d0 := cb hb d0
  replace d1 := cb hb d1
  replace d2 := cb hb d2
  replace d3 := cb hb d3
  replace HF := Aside0.mk (cb hb HF.out)
  replace HB := Aside0.mk (bt HB.out hb)
  clear hb q3
  cases r3
  · go_wp2_with fail
    go_ret
    exact ⟨ret_i64 (by rw [HE.out]; rw [if_neg (show ¬ (true = false) by decide)]; rw [if_neg HG1.out]; rw [if_neg HG2.out]; rw [if_neg HG3.out]; rw [if_neg (show ¬ (true = false) by decide)]; rfl), HB.out⟩
  go_wp2_with fail
  refine (q4.out _ HB.out).mono ?_
  rintro e w1 ⟨rfl, hb⟩
  replace d0 := cb hb d0
  replace d1 := cb hb d1
  replace d2 := cb hb d2
  replace d3 := cb hb d3
  replace HF := Aside0.mk (cb hb HF.out)
  replace HB := Aside0.mk (bt HB.out hb)
  clear hb q4
  cases r4
  · go_wp2_with fail
    go_ret
    exact ⟨ret_i64 (by rw [HE.out]; rw [if_neg (show ¬ (true = false) by decide)]; rw [if_neg HG1.out]; rw [if_neg HG2.out]; rw [if_neg HG3.out]; rw [if_neg (show ¬ (true = false) by decide)]; rw [if_neg (show ¬ (true = false) by decide)]; rfl), HB.out⟩
  go_wp2_with fail
  refine (q5.out _ HB.out HF.out).mono ?_
  rintro e w1 ⟨rfl, hb⟩
  replace d0 := cb hb d0
  replace d1 := cb hb d1
  replace d2 := cb hb d2
  replace d3 := cb hb d3
  replace HF := Aside0.mk (cb hb HF.out)
  replace HB := Aside0.mk (bt HB.out hb)
  clear hb q5
  cases r5
  · go_wp2_with fail
    go_ret
    exact ⟨ret_i64 (by rw [HE.out]; rw [if_neg (show ¬ (true = false) by decide)]; rw [if_neg HG1.out]; rw [if_neg HG2.out]; rw [if_neg HG3.out]; rw [if_neg (show ¬ (true = false) by decide)]; rw [if_neg (show ¬ (true = false) by decide)]; rw [if_neg (show ¬ (true = false) by decide)]; rfl), HB.out⟩
  go_wp2_with fail
  refine (q6.out _ HB.out).mono ?_
  rintro e w1 ⟨rfl, hb⟩
  replace d0 := cb hb d0
  replace d1 := cb hb d1
  replace d2 := cb hb d2
  replace d3 := cb hb d3
  replace HF := Aside0.mk (cb hb HF.out)
  replace HB := Aside0.mk (bt HB.out hb)
  clear hb q6
  cases r6
  · go_wp2_with fail
    go_ret
    exact ⟨ret_i64 (by rw [HE.out]; rw [if_neg (show ¬ (true = false) by decide)]; rw [if_neg HG1.out]; rw [if_neg HG2.out]; rw [if_neg HG3.out]; rw [if_neg (show ¬ (true = false) by decide)]; rw [if_neg (show ¬ (true = false) by decide)]; rw [if_neg (show ¬ (true = false) by decide)]; rw [if_neg (show ¬ (true = false) by decide)]; rfl), HB.out⟩
  go_wp2_with fail
  go_ret
  exact ⟨ret_i64 (by rw [HE.out]; rw [if_neg (show ¬ (true = false) by decide)]; rw [if_neg HG1.out]; rw [if_neg HG2.out]; rw [if_neg HG3.out]; rw [if_neg (show ¬ (true = false) by decide)]; rw [if_neg (show ¬ (true = false) by decide)]; rw [if_neg (show ¬ (true = false) by decide)]; rw [if_neg (show ¬ (true = false) by decide)]; rw [if_neg (show ¬ (true = false) by decide)]), HB.out⟩
end Go.Proofs.Ytkbdphjnpieceaa.G
