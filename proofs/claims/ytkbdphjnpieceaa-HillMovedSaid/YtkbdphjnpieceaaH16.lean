/- Contract of hill.Land.hours over whatever closure; of the closures of Hours and Always. -/
import Derived.Test.YtkbdphjnpieceaaH15
namespace Go.Proofs.Ytkbdphjnpieceaa.G
open Go.RowKit Go.Proofs.YtkbdphjnpieceaaW.PrintWords Go.Proofs.YtkbdphjnpieceaaW.PrintLast Go.Proofs.YtkbdphjnpieceaaW.PrintMore
open Go.Sort (grow)
set_option linter.unusedVariables false
set_option linter.unusedSimpArgs false

theorem grown_own {w W W1 : World} {r row : Option Nat} (h : w.grownBy W r) (hg : W.grownBy W1 row) (hr : ∀ k, row = some k → w.heap.size ≤ k) : w.grownBy W1 r :=
  ⟨hg.os.trans h.os, hg.tape.trans h.tape, hg.output.trans h.output, Nat.le_trans h.size hg.size, fun k hk hne => (hg.block k (Nat.lt_of_lt_of_le hk h.size) (fun e => by have := hr k e.symm; omega)).trans (h.block k hk hne)⟩
theorem Lv.In.grown {L : Lv} {w W : World} {mb : Nat} {es : Array MapEntry} {clock : Nat} (h : L.In w) (hm : w.heap[mb]? = some (.map es clock)) (hg : w.grownBy W (some mb)) : L.In W :=
  h.cells fun a v ha => hg.cell ha (fun e => by
    injection e with e
    unfold World.cell? at ha
    rw [e, hm] at ha
    exact absurd ha (by simp))

set_option maxHeartbeats 1000000 in
theorem hours_c (L : Lv) (g mb c fid : Nat) (caps : Array Value) (p : Int → Bool) (eg : ∀ args w, (callFunc fid args).run Try.prog w = .ok (.enter fid args) w) (w : World) (hW : Wk L g mb 0 (fun _ => True) w) (h12 : L.su.length ≤ 12)
    (hp : ∀ i : Nat, i < L.su.length → ∀ (W : World) (N : Nat → Prop), (∀ b, W.heap.size ≤ b → N b) → Wk L g mb (c * i) N W → w.grownBy W (some mb) → Calls Try.prog fid (#[.int .i64 (i : Int)] ++ caps) W fun e W' => e = .returned (.bool (p i)) ∧ Wk L g mb (c * (i + 1)) N W' ∧ W.grownBy W' (some mb)) :
    Calls Try.prog 59 #[.agg #[.slice L.A0 L.st.length L.c0, .slice L.A1 L.ri.length L.c1, .slice L.A2 L.ca.length L.c2, .slice L.A3 L.su.length L.c3], .func (.func fid) #[] caps] w
      fun e w' => ∃ v, e = .returned v ∧ Kd.R (Kd.int .i64) 3 w' w.heap.size (fun _ => True) v (filK p L.su.length) ∧ w.grownBy w' (some mb) := by
  have HP := Aside0.mk hp
  have HI := Aside0.mk hW.land
  obtain ⟨es0, clock0, hm0⟩ := hW.mbmap
  have HM := Aside0.mk hm0
  have hmlt := blk_lt hm0
  have HW := Aside0.mk hW
  clear hp hW hm0
  have d3 : (w.alloc (.cells #[.slice L.A0 L.st.length L.c0, .slice L.A1 L.ri.length L.c1, .slice L.A2 L.ca.length L.c2, .slice L.A3 L.su.length L.c3] 39)).cell? ⟨w.heap.size, 3, none⟩ = some (.slice L.A3 L.su.length L.c3) := cnew rfl rfl
  go_enter Try.func59, Try.ntmps59
  go_wp2_with fail
  go_loopg [4, 9] L.su.length (fun gg s4 s9 wr => ∃ i : Nat, s9 = .int .i64 (i : Int) ∧ i ≤ L.su.length ∧ L.su.length - i ≤ gg ∧ Aside0 (Kd.R (Kd.int .i64) 3 wr w.heap.size (fun _ => True) s4 (filK p i)) ∧ Aside0 (Wk L g mb (c * i) (fun b => some b ≠ s4.ownBlock) wr) ∧ Aside0 (w.grownBy wr (some mb)))
  case atStart => exact ⟨0, rfl, Nat.zero_le _, Nat.le_refl _, ⟨Kd.R_nil _ _ _ _ _⟩, ⟨(HW.out.below (b1 _ _)).imp fun _ _ => by simp [Value.ownBlock]⟩, ⟨grown_of_below (b1 _ _) _⟩⟩
  case round =>
    clear d3 HW
    obtain ⟨i, rfl, hi, hg, HR, HW, HG⟩ := hrel
    by_cases hlt : i < L.su.length
    · have hlti : (i : Int) < L.su.length := by omega
      have HS := Aside0.mk (filK_succ p i)
      have hlk := filK_len p i
      have HC := Aside0.mk (HP.out i hlt wr _ (fun b hb e => by obtain ⟨_, h2, _⟩ := (Kd.R_bound HR.out).1 b e.symm; have := h2; omega) HW.out HG.out)
      have eg' := eg
      go_wp2_with fail
      refine HC.out.mono ?_
      rintro e w3 ⟨rfl, hW3, hg3⟩
      obtain ⟨es, clock, hmb⟩ := HW.out.mbmap
      have HR3 := Aside0.mk (R_mb HR.out hmb hg3)
      have HG3 := Aside0.mk (HG.out.trans hg3)
      have HW3 := Aside0.mk hW3
      clear hW3 hg3 hmb HR HW HG HC
      generalize hcv : p i = cv at *
      clear hcv
      cases cv
      · go_wp2_with fail
        go_roundg (L.su.length - (i + 1))
        case measure => omega
        case rel => exact ⟨i + 1, by simp, hlt, Nat.le_refl _, ⟨by rw [HS.out]; simpa using HR3.out⟩, HW3, HG3⟩
      · go_wp2_with (first | ((with_reducible refine gate_builtin (b := .append) (xs := #[.tmp 15, .tmp 17]) rfl ?_); at_builtin; refine Kd.R_append (Kd.int .i64) (w0 := w3) w.heap.size rfl (.tmp 15) (.tmp 17) 30 3 (.int .i64 0) 8 rfl Try.underlying30 info3 rfl (by decide) (by omega) _ (filK p i) (i : Int) [.int .i64 (i : Int)] (fun _ => True) (fun _ => False) rfl rfl ?aP (fun _ hk => hk.elim) ?aF ?aO ?aB ?aS ?aL ?_; (case aP => exact rfl); (case aB => exact Below.refl _ _); (case aF => exact (fun _ _ => trivial)); (case aO => exact HR3.out); (case aS => exact HG3.out.size); (case aL => omega); intro v3 w4 ho hb hg4 hat; have HG4 := Aside0.mk (grown_own HG3.out hg4 (fun k e => ((Kd.R_bound HR3.out).1 k e).2.1)); have HW4 := Aside0.mk (Wk.row (HI.out.grown HM.out HG4.out) HW3.out HR3.out hg4 hat); have HR4 := Aside0.mk ho; clear ho hb hg4 hat HR3 HW3 HG3))
        go_roundg (L.su.length - (i + 1))
        case measure => omega
        case rel => exact ⟨i + 1, by simp, hlt, Nat.le_refl _, ⟨by rw [HS.out]; simpa using HR4.out⟩, HW4, HG4⟩
    · obtain rfl : i = L.su.length := by omega
      go_wp2_with fail
      go_ret
      exact ⟨_, rfl, HR.out, HG.out⟩

/-- The closure of Hours. -/
theorem hours1_c (L : Lv) (g mb n : Nat) (f t k h : Int) (b1' b2 b3 : Nat) (w : World) {N : Nat → Prop} (hN : ∀ b, w.heap.size ≤ b → N b) (hW : Wk L g mb n N w) (hL : L.Ok) (hn : n < 1000000) (q1 : w.cell? ⟨b1', 0, none⟩ = some (.pointer (some ⟨g, 0, none⟩))) (q2 : w.cell? ⟨b2, 0, none⟩ = some (.int .i64 f)) (q3 : w.cell? ⟨b2, 1, none⟩ = some (.int .i64 t)) (q4 : w.cell? ⟨b3, 0, none⟩ = some (.int .i64 k))
    (hf0 : 0 ≤ f) (hf : f < L.st.length) (ht0 : 0 ≤ t) (ht : t < L.st.length) (hk0 : 0 ≤ k) (hk : k < L.ca.length) (hh0 : 0 ≤ h) (hh : h < L.su.length) :
    Calls Try.prog 60 #[.int .i64 h, .pointer (some ⟨b1', 0, none⟩), .pointer (some ⟨b2, 0, none⟩), .pointer (some ⟨b3, 0, none⟩)] w fun e w' => e = .returned (.bool (canF L f t k h)) ∧ Wk L g mb (n + 1) N w' ∧ w.grownBy w' (some mb) := by
  have HC := Aside0.mk (can_c L g mb n f t k h w hN hW hL hn hf0 hf ht0 ht hk0 hk hh0 hh)
  clear hW hL
  go_enter Try.func60, Try.ntmps60
  go_wp2_with fail
  refine HC.out.mono ?_
  rintro e w1 ⟨rfl, hW1, hg1⟩
  go_wp2_with fail
  go_ret
  exact ⟨rfl, hW1, hg1⟩
end Go.Proofs.Ytkbdphjnpieceaa.G
