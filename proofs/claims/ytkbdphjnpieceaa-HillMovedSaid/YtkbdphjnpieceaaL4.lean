/- The program's functions over what Land returns. -/
import Derived.Test.YtkbdphjnpieceaaL3
namespace Go.Proofs.Ytkbdphjnpieceaa.G
open Go.RowKit Go.Proofs.YtkbdphjnpieceaaW.PrintWords Go.Proofs.YtkbdphjnpieceaaW.PrintLast Go.Proofs.YtkbdphjnpieceaaW.PrintMore
set_option linter.unusedVariables false
set_option linter.unusedSimpArgs false

/-- The program's form of a land of the reference. -/
def Lv.Of (L : Lv) (R : Rv) : Prop := ∃ A0 A1 A2 A3 c0 c1 c2 c3, L = R.at A0 A1 A2 A3 c0 c1 c2 c3
theorem lland_c (R : Rv) (w : World) (hI : R.In w) (hF : R.Few) :
    Calls Try.prog 20 #[.agg R.cells] w fun e w' => ∃ L : Lv, e = .returned (.agg L.cells) ∧ L.Of R ∧ L.In w' ∧ Below w.heap.size w w' :=
  (land_c R w hI hF).mono fun _ _ ⟨A0, A1, A2, A3, c0, c1, c2, c3, he, hL, hb⟩ => ⟨_, he, ⟨A0, A1, A2, A3, c0, c1, c2, c3, rfl⟩, hL, hb⟩
theorem stickK_congr {L L' : Lv} {f t h : Int} (hc : ∀ k, canF L f t k h = canF L' f t k h) : ∀ d k, stickK L f t h d k = stickK L' f t h d k := by
  intro d
  induction d with
  | zero => intro k; rfl
  | succ d ih => intro k; simp only [stickK, hc, ih]
theorem stickF_of {R : Rv} (A0 A1 A2 A3 : Option Addr) (c0 c1 c2 c3 : Nat) (f t h : Int) : stickF (R.at A0 A1 A2 A3 c0 c1 c2 c3) f t h = stickF R.lv f t h :=
  (stickK_congr (L := R.at A0 A1 A2 A3 c0 c1 c2 c3) (L' := R.lv) (f := f) (t := t) (h := h) (fun _ => rfl) R.lv.ca.length 0 :)
theorem of_hours {R : Rv} {L : Lv} (hO : L.Of R) {w : World} (hI : L.In w) (f t k : Int) : Calls Try.prog 33 #[.agg L.cells, .int .i64 f, .int .i64 t, .int .i64 k] w fun e w' => ∃ A c, e = .returned (.tuple #[.slice A (hoursE R.lv f t k).1.length c, .int .i64 (hoursE R.lv f t k).2]) ∧ Kd.C (Kd.int .i64) w' A (hoursE R.lv f t k).1.length (hoursE R.lv f t k).1 ∧ Below w.heap.size w w' := by
  obtain ⟨A0, A1, A2, A3, c0, c1, c2, c3, rfl⟩ := hO
  refine (Hours_c _ f t k w hI).mono fun e w' ⟨v, he, hR, hb⟩ => ?_
  obtain ⟨A, c, rfl, hC⟩ := R_read2 hR rfl
  exact ⟨A, c, he, hC, hb⟩
theorem of_always {R : Rv} {L : Lv} (hO : L.Of R) {w : World} (hI : L.In w) (f t : Int) : Calls Try.prog 39 #[.agg L.cells, .int .i64 f, .int .i64 t] w fun e w' => ∃ A c, e = .returned (.tuple #[.slice A (alwaysE R.lv f t).1.length c, .int .i64 (alwaysE R.lv f t).2]) ∧ Kd.C (Kd.int .i64) w' A (alwaysE R.lv f t).1.length (alwaysE R.lv f t).1 ∧ Below w.heap.size w w' := by
  obtain ⟨A0, A1, A2, A3, c0, c1, c2, c3, rfl⟩ := hO
  refine (Always_c _ f t w hI).mono fun e w' ⟨v, he, hR, hb⟩ => ?_
  have hE : alwaysE (R.at A0 A1 A2 A3 c0 c1 c2 c3) f t = alwaysE R.lv f t := by
    unfold alwaysE
    simp only [stickF_of]
    rfl
  rw [hE] at he hR
  obtain ⟨A, c, rfl, hC⟩ := R_read2 hR rfl
  exact ⟨A, c, he, hC, hb⟩
theorem of_walls {R : Rv} {L : Lv} (hO : L.Of R) {w : World} (hI : L.In w) (f t k h : Int) : Calls Try.prog 37 #[.agg L.cells, .int .i64 f, .int .i64 t, .int .i64 k, .int .i64 h] w fun e w' => ∃ A c B d, e = .returned (.tuple #[.slice A (wallsE R.lv f t k h).1.length c, .slice B (wallsE R.lv f t k h).2.1.length d, .int .i64 (wallsE R.lv f t k h).2.2]) ∧ Kd.C (Kd.int .i64) w' A (wallsE R.lv f t k h).1.length (wallsE R.lv f t k h).1 ∧ Kd.C (Kd.int .i64) w' B (wallsE R.lv f t k h).2.1.length (wallsE R.lv f t k h).2.1 ∧ Below w.heap.size w w' := by
  obtain ⟨A0, A1, A2, A3, c0, c1, c2, c3, rfl⟩ := hO
  refine (Walls_c _ f t k h w hI).mono fun e w' ⟨v, u, he, hR, hS, hb⟩ => ?_
  obtain ⟨A, c, rfl, hC⟩ := R_read2 hR rfl
  obtain ⟨B, d, rfl, _, hD⟩ := Kd.R_reads hS
  exact ⟨A, c, B, d, he, hC, hD, hb⟩
theorem of_why {R : Rv} {L : Lv} (hO : L.Of R) {w : World} (hI : L.In w) (f t k h : Int) : Calls Try.prog 38 #[.agg L.cells, .int .i64 f, .int .i64 t, .int .i64 k, .int .i64 h] w fun e w' => e = .returned (.tuple #[.int .u8 (whyE R.lv f t k h).1, .int .i64 (whyE R.lv f t k h).2.1, .int .i64 (whyE R.lv f t k h).2.2]) ∧ Below w.heap.size w w' := by
  obtain ⟨A0, A1, A2, A3, c0, c1, c2, c3, rfl⟩ := hO
  exact Why_c _ f t k h w hI
theorem of_rise {R : Rv} {L : Lv} (hO : L.Of R) {w : World} (hI : L.In w) (f t : Int) : Calls Try.prog 28 #[.agg L.cells, .int .i64 f, .int .i64 t] w fun e w' => e = .returned (.tuple #[.int .i64 (riseE R.lv f t).1, .int .i64 (riseE R.lv f t).2]) ∧ Below w.heap.size w w' := by
  obtain ⟨A0, A1, A2, A3, c0, c1, c2, c3, rfl⟩ := hO
  exact Rise_c _ f t w hI
theorem Rv.few_of {R : Rv} (h : R.thin = true) : R.Few := by
  unfold Rv.thin at h
  simp only [Bool.and_eq_true, decide_eq_true_eq] at h
  obtain ⟨⟨⟨⟨h0, h1⟩, h2⟩, h3⟩, h4⟩ := h
  refine ⟨by omega, by omega, by omega, by omega, fun j hj => ?_⟩
  unfold allK at h0
  rw [List.all_eq_true] at h0
  have h7 := of_decide_eq_true (h0 j (by rw [List.mem_range]; omega))
  show (rd_L3 R.ca (j : Int)).length ≤ 1000
  omega
end Go.Proofs.Ytkbdphjnpieceaa.G
