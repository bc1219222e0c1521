/- Contract of Land.apart. -/
import Derived.Test.YtkbdphjnpieceaaH2
import Derived.Lib.QuietBelow
namespace Go.Proofs.Ytkbdphjnpieceaa.G
open Go.RowKit Go.Proofs.YtkbdphjnpieceaaW.PrintWords Go.Proofs.YtkbdphjnpieceaaW.PrintLast Go.Proofs.YtkbdphjnpieceaaW.PrintMore
open Go.Sort (grow)
set_option linter.unusedVariables false
set_option linter.unusedSimpArgs false

def samePl (a b : S85) : Bool := a.f0 == b.f0 && a.f1 == b.f1
/-- No two of the stations have the same place. -/
def apartB (st : List S85) : Bool := (List.range st.length).all fun i => (List.range i).all fun j => !samePl (st.getD j z85) (st.getD i z85)
theorem apart_no {st : List S85} {i j : Int} (h0 : 0 ≤ j) (h1 : j < i) (h2 : i < st.length) (h : samePl (rd_T85 st j) (rd_T85 st i) = true) : apartB st = false := by
  unfold apartB
  rw [List.all_eq_false]
  refine ⟨i.toNat, by simp; omega, ?_⟩
  rw [Bool.not_eq_true, List.all_eq_false]
  refine ⟨j.toNat, by simp; omega, ?_⟩
  simp only [rd_T85] at h
  rw [h]; simp
theorem apart_yes {st : List S85} (h : ∀ a b : Int, 0 ≤ b → b < a → a < st.length → samePl (rd_T85 st b) (rd_T85 st a) = false) : apartB st = true := by
  unfold apartB
  rw [List.all_eq_true]
  intro i hi
  rw [List.all_eq_true]
  intro j hj
  rw [List.mem_range] at hi hj
  have := h i j (by omega) (by omega) (by omega)
  simp only [rd_T85, Int.toNat_natCast] at this
  rw [this]; rfl

set_option maxHeartbeats 1000000 in
theorem apart_c (st : List S85) (A0 A1 A2 A3 : Option Addr) (n1 n2 n3 c0 c1 c2 c3 : Nat) (w : World) (hr : Kd.C k85 w A0 st.length st) (hc : st.length ≤ c0) :
    Calls Try.prog 75 #[.agg #[.slice A0 st.length c0, .slice A1 n1 c1, .slice A2 n2 c2, .slice A3 n3 c3]] w fun e w' => e = .returned (.bool (apartB st)) ∧ Below w.heap.size w w' := by
  have hlen := hr.2.1
  have HR := Aside0.mk hr
  clear hr
  have hb0 := b1 w (.cells #[.slice A0 st.length c0, .slice A1 n1 c1, .slice A2 n2 c2, .slice A3 n3 c3] 39)
  have dl : (w.alloc (.cells #[.slice A0 st.length c0, .slice A1 n1 c1, .slice A2 n2 c2, .slice A3 n3 c3] 39)).cell? ⟨w.heap.size, 0, none⟩ = some (.slice A0 st.length c0) := by simp
  go_enter Try.func75, Try.ntmps75
  go_wp2
  go_loopg [10] st.length (fun gg s10 wr => ∃ i : Int, s10 = .int .i64 i ∧ 0 ≤ i ∧ i ≤ (st.length : Int) ∧ (st.length : Int) - i ≤ (gg : Int) ∧ Aside0 (Below w.heap.size w wr) ∧ Aside0 (wr.cell? ⟨w.heap.size, 0, none⟩ = some (.slice A0 st.length c0)) ∧ Aside0 (∀ a b : Int, 0 ≤ b → b < a → a < i → samePl (rd_T85 st b) (rd_T85 st a) = false))
  case atStart => exact ⟨0, rfl, by omega, by omega, by omega, ⟨hb0⟩, ⟨dl⟩, ⟨fun a b h1 h2 h3 => by omega⟩⟩
  case round =>
    clear dl hb0
    obtain ⟨i, rfl, h0, h1, hg, BW, DL, BA⟩ := hrel
    have hmx : max i 0 = i := by omega
    obtain ⟨wo, rfl⟩ : ∃ wo : World, wo = wr := ⟨_, rfl⟩
    by_cases hlt : i < (st.length : Int)
    · obtain ⟨ad, e0, x0, x1, x2, x3⟩ := at_T85 HR.out i h0 hlt
      cases e0
      replace x0 := cb BW.out x0
      replace x1 := cb BW.out x1
      replace x2 := cb BW.out x2
      replace x3 := cb BW.out x3
      have dl := DL.out
      have hlw : w.heap.size < wo.heap.size := World.block_lt_of_cell? wo _ dl
      have hne : w.heap.size ≠ wo.heap.size := by omega
      go_wp2
      have hsz : wo.heap.size < (wo.alloc (.cells #[.int .i64 (rd_T85 st i).f0, .int .i64 (rd_T85 st i).f1, .int .i64 (rd_T85 st i).f2, .int .i64 (rd_T85 st i).f3] 85)).heap.size := by simp
      have hb2 := below_alloc BW.out (.cells #[.int .i64 (rd_T85 st i).f0, .int .i64 (rd_T85 st i).f1, .int .i64 (rd_T85 st i).f2, .int .i64 (rd_T85 st i).f3] 85)
      go_loopg [20] st.length (fun gg s20 wi => ∃ j : Int, s20 = .int .i64 j ∧ 0 ≤ j ∧ j ≤ i ∧ (st.length : Int) - j ≤ (gg : Int) ∧ Aside0 (Below w.heap.size w wi) ∧ Aside0 (wi.cell? ⟨w.heap.size, 0, none⟩ = some (.slice (some ad) st.length c0)) ∧ Aside0 (wi.cell? ⟨wo.heap.size, 0, none⟩ = some (.int .i64 (rd_T85 st i).f0) ∧ wi.cell? ⟨wo.heap.size, 1, none⟩ = some (.int .i64 (rd_T85 st i).f1) ∧ wi.cell? ⟨wo.heap.size, 2, none⟩ = some (.int .i64 (rd_T85 st i).f2) ∧ wi.cell? ⟨wo.heap.size, 3, none⟩ = some (.int .i64 (rd_T85 st i).f3)) ∧ Aside0 (∀ b : Int, 0 ≤ b → b < j → samePl (rd_T85 st b) (rd_T85 st i) = false))
      case atStart => exact ⟨0, rfl, by omega, by omega, by omega, ⟨hb2⟩, ⟨cb (b1 wo _) dl⟩, ⟨by simp, by simp, by simp, by simp⟩, ⟨fun b h1 h2 => by omega⟩⟩
      case round =>
        clear x0 x1 x2 x3 dl hlw hne hsz hb2
        obtain ⟨j, rfl, k0, k1, hgj, BW2, DL2, DS, BA2⟩ := hrel
        by_cases hjt : j < i
        · obtain ⟨ad', e0, x0, x1, x2, x3⟩ := at_T85 HR.out j k0 (by omega)
          cases e0
          replace x0 := cb BW2.out x0
          replace x1 := cb BW2.out x1
          replace x2 := cb BW2.out x2
          replace x3 := cb BW2.out x3
          have dl := DL2.out
          obtain ⟨s0, s1, s2, s3⟩ := DS.out
          go_wp2
          refine wp_abs (fun W => Below wr.heap.size wr W ∧ W.cell? ⟨wr.heap.size, 0, none⟩ = some (.int .i64 (rd_T85 st j).f0) ∧ W.cell? ⟨wr.heap.size, 1, none⟩ = some (.int .i64 (rd_T85 st j).f1) ∧ W.cell? ⟨wr.heap.size, 2, none⟩ = some (.int .i64 (rd_T85 st j).f2) ∧ W.cell? ⟨wr.heap.size, 3, none⟩ = some (.int .i64 (rd_T85 st j).f3)) ⟨b1 _ _, by simp, by simp, by simp, by simp⟩ ?_
          rintro W ⟨hbW, y0, y1, y2, y3⟩
          replace s0 := cb hbW s0
          replace s1 := cb hbW s1
          replace s2 := cb hbW s2
          replace s3 := cb hbW s3
          replace dl := cb hbW dl
          have S0 := fun d os => cell_regrown s0 d os
          have S1 := fun d os => cell_regrown s1 d os
          have S2 := fun d os => cell_regrown s2 d os
          have S3 := fun d os => cell_regrown s3 d os
          have Y0 := fun d os => cell_regrown y0 d os
          have Y1 := fun d os => cell_regrown y1 d os
          have Y2 := fun d os => cell_regrown y2 d os
          have Y3 := fun d os => cell_regrown y3 d os
          have eqp : ∀ W', _ = Result.ok (samePl (rd_T85 st j) (rd_T85 st i)) W' := eq_place (rd_T85 st j).f0 (rd_T85 st j).f1 (rd_T85 st i).f0 (rd_T85 st i).f1
          cases hsm : samePl (rd_T85 st j) (rd_T85 st i)
          all_goals
            rw [hsm] at eqp
            have HS := Aside0.mk hsm
            clear hsm
            refine wp_region_quiet_below (by kernel_rfl) (by kernel_rfl) ?_
            repeat (quiet_step (exact Calls.regrown_of (place_c _ _ _ _ _)))
            refine wpQuiet_nil ?_
            intro _ hw'
            obtain ⟨⟨dq, osq⟩, hw''⟩ := hw'
            subst hw''
            have hbF : Below w.heap.size w (grow (redrawn W dq) osq) := bt (bt BW2.out hbW) (below_regrown W dq osq)
            have DLF := cell_regrown dl dq osq
            have F0 := cell_regrown s0 dq osq
            have F1 := cell_regrown s1 dq osq
            have F2 := cell_regrown s2 dq osq
            have F3 := cell_regrown s3 dq osq
            clear S0 S1 S2 S3 Y0 Y1 Y2 Y3 eqp s0 s1 s2 s3 y0 y1 y2 y3 dl hbW x0 x1 x2 x3
            generalize grow (redrawn W dq) osq = WF at hbF DLF F0 F1 F2 F3 ⊢
            go_wp2
          · go_roundg (st.length - (j + 1).toNat)
            case measure => omega
            case rel =>
              refine ⟨j + 1, by first | rfl | go_num, by omega, by omega, by omega, ⟨hbF⟩, ⟨DLF⟩, ⟨F0, F1, F2, F3⟩, ⟨fun b h1 h2 => ?_⟩⟩
              by_cases e : b = j
              · rw [e]; exact HS.out
              · exact BA2.out b h1 (by omega)
          · go_ret
            exact ⟨ret_bool (apart_no k0 hjt hlt HS.out).symm, hbF⟩
        · have : j = i := by omega
          subst this
          have dl := DL2.out
          go_wp2
          go_roundg (st.length - (j + 1).toNat)
          case measure => omega
          case rel =>
            refine ⟨j + 1, by first | rfl | go_num, by omega, by omega, by omega, ⟨BW2.out⟩, ⟨DL2.out⟩, ⟨fun a b h1 h2 h3 => ?_⟩⟩
            by_cases e : a = j
            · rw [e]; exact BA2.out b h1 (by omega)
            · exact BA.out a b h1 h2 (by omega)
    · have : i = (st.length : Int) := by omega
      subst this
      go_wp2
      go_ret
      exact ⟨ret_bool (apart_yes BA.out).symm, BW.out⟩
end Go.Proofs.Ytkbdphjnpieceaa.G
