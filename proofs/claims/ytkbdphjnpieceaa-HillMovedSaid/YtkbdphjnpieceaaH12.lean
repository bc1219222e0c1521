/- Contracts of work.can, work.stick. -/
import Derived.Test.YtkbdphjnpieceaaH11
import Derived.WalkMore
namespace Go.Proofs.Ytkbdphjnpieceaa.G
open Go.RowKit Go.Proofs.YtkbdphjnpieceaaW.PrintWords Go.Proofs.YtkbdphjnpieceaaW.PrintLast Go.Proofs.YtkbdphjnpieceaaW.PrintMore
open Go.Sort (grow)
set_option linter.unusedVariables false
set_option linter.unusedSimpArgs false

def canF (L : Lv) (f t k h : Int) : Bool := decide (f ≠ t) && decide ((whyF L f t k h).1 = 0)

set_option maxHeartbeats 1000000 in
theorem can_c (L : Lv) (g mb n : Nat) (f t k h : Int) (w : World) {N : Nat → Prop} (hN : ∀ b, w.heap.size ≤ b → N b) (hW : Wk L g mb n N w) (hL : L.Ok) (hn : n < 1000000) (hf0 : 0 ≤ f) (hf : f < L.st.length) (ht0 : 0 ≤ t) (ht : t < L.st.length) (hk0 : 0 ≤ k) (hk : k < L.ca.length) (hh0 : 0 ≤ h) (hh : h < L.su.length) :
    Calls Try.prog 47 #[.pointer (some ⟨g, 0, none⟩), .agg #[.int .i64 f, .int .i64 t], .int .i64 k, .int .i64 h] w fun e w' =>
      e = .returned (.bool (canF L f t k h)) ∧ Wk L g mb (n + 1) N w' ∧ w.grownBy w' (some mb) := by
  have hc : ∀ W, Below w.heap.size w W → _ := fun W hb => why_c L g mb n f t k h W (fun b h => hN b (Nat.le_trans hb.size h)) (hW.below hb) hL hn hf0 hf ht0 ht hk0 hk hh0 hh
  have HC := Aside0.mk hc
  have hm := blk_lt hW.memo.ex.choose_spec.choose_spec.1
  have HM := Aside0.mk hm
  clear hc hW hm
  have HD : Aside0 (canF L f t k h = (decide (f ≠ t) && decide ((whyF L f t k h).1 = 0))) := ⟨rfl⟩
  go_enter Try.func47, Try.ntmps47
  go_wp2_with fail
  refine (HC.out _ (b1 _ _)).mono ?_
  rintro e w1 ⟨rfl, hW1, hg1⟩
  have hp := blk_grown (blk_new w (.cells #[.int .i64 f, .int .i64 t] 95)) hg1 (fun e => by injection e with e; have := HM.out; omega)
  have p0 := (blk_cell hp 0).trans rfl
  have p1 := (blk_cell hp 1).trans rfl
  have HR := Aside0.mk (And.intro hW1 ((grown_of_below (b1 w (.cells #[.int .i64 f, .int .i64 t] 95)) (some mb)).trans hg1))
  clear hW1 hg1 hp
  generalize whyF L f t k h = r at *
  by_cases hft : f = t
  · subst hft
    go_wp2_with fail
    go_ret
    exact ⟨by rw [HD.out]; simp, HR.out⟩
  · go_wp2_with fail
    go_ret
    have e1 : (f != t) = true := bne_iff_ne.2 hft
    exact ⟨by rw [HD.out]; simp [hft, e1]; cases hr : (r.1 == 0) <;> simp_all, HR.out⟩

/-- The first case in which it cannot. -/
def stickK (L : Lv) (f t h : Int) : Nat → Nat → Int
  | 0, k => k
  | d + 1, k => if canF L f t k h = true then stickK L f t h d (k + 1) else k
def stickF (L : Lv) (f t h : Int) : Int := stickK L f t h L.ca.length 0

set_option maxHeartbeats 1000000 in
theorem stick_c (L : Lv) (g mb n : Nat) (f t h : Int) (w : World) {N : Nat → Prop} (hN : ∀ b, w.heap.size ≤ b → N b) (hW : Wk L g mb n N w) (hL : L.Ok) (hn : n < 999990) (hf0 : 0 ≤ f) (hf : f < L.st.length) (ht0 : 0 ≤ t) (ht : t < L.st.length) (hh0 : 0 ≤ h) (hh : h < L.su.length) :
    Calls Try.prog 67 #[.pointer (some ⟨g, 0, none⟩), .agg #[.int .i64 f, .int .i64 t], .int .i64 h] w fun e w' =>
      e = .returned (.int .i64 (stickF L f t h)) ∧ Wk L g mb (n + 4) N w' ∧ w.grownBy w' (some mb) := by
  have HW := Aside0.mk hW
  have HL := Aside0.mk hL
  have hm := blk_lt hW.memo.ex.choose_spec.choose_spec.1
  have HM := Aside0.mk hm
  have G2 := Aside0.mk ((blk_cell hW.blk 2).trans rfl)
  have hca := hL.ca4
  clear hW hm hL
  have g2 := cb (b1 w (.cells #[.int .i64 f, .int .i64 t] 95)) G2.out
  have HF : Aside0 (stickF L f t h = stickK L f t h (L.ca.length - 0) ((0 : Nat) : Int).toNat) := ⟨rfl⟩
  go_enter Try.func67, Try.ntmps67
  go_wp2_with fail
  go_step3
  go_wp2_with fail
  go_step3
  go_wp2_with fail
  go_loopg [14] L.ca.length (fun gg s14 wr => ∃ k : Nat, s14 = .int .i64 (k : Int) ∧ k ≤ L.ca.length ∧ L.ca.length - k ≤ gg ∧ Aside0 (stickF L f t h = stickK L f t h (L.ca.length - k) k) ∧ Aside0 (Wk L g mb (n + k) N wr) ∧ Aside0 (w.grownBy wr (some mb)) ∧ Aside0 (wr.heap[w.heap.size]? = some (.cells #[.int .i64 f, .int .i64 t] 95 (0, 0))))
  case atStart => exact ⟨0, rfl, Nat.zero_le _, Nat.le_refl _, ⟨rfl⟩, ⟨HW.out.below (b1 _ _)⟩, ⟨grown_of_below (b1 _ _) _⟩, ⟨blk_new _ _⟩⟩
  case round =>
    clear g2 HF
    obtain ⟨k, rfl, hk, hg, HS, WK, HG, BP⟩ := hrel
    have g2 := (blk_cell WK.out.blk 2).trans rfl
    have p0 := (blk_cell BP.out 0).trans rfl
    have p1 := (blk_cell BP.out 1).trans rfl
    by_cases hlt : k < L.ca.length
    · have hlti : (k : Int) < L.ca.length := by omega
      have hd : L.ca.length - k = (L.ca.length - (k + 1)) + 1 := by omega
      have HS' : Aside0 (stickF L f t h = if canF L f t k h = true then stickK L f t h (L.ca.length - (k + 1)) (k + 1) else k) := ⟨by rw [HS.out, hd]; rfl⟩
      clear hd
      go_wp2_with fail
      refine (can_c L g mb (n + k) f t k h _ (fun b h => hN b (Nat.le_trans HG.out.size h)) WK.out HL.out (by omega) hf0 hf ht0 ht (by omega) hlti hh0 hh).mono ?_
      rintro e w1 ⟨rfl, hW1, hg1⟩
      have hG1 := HG.out.trans hg1
      have hp1 := blk_grown BP.out hg1 (fun e => by injection e with e; have := HM.out; omega)
      have HW1 := Aside0.mk hW1
      have HG1 := Aside0.mk hG1
      have BP1 := Aside0.mk hp1
      clear hW1 hG1 hg1 hp1 p0 p1 g2 WK HG BP
      generalize canF L f t k h = r at *
      cases r
      · go_wp2_with fail
        simp only [Exit.inBlock, Exit.then, Exit.noGoto_ret]
        go_ret
        exact ⟨by rw [HS'.out]; rfl, HW1.out.mono (by omega), HG1.out⟩
      · go_wp2_with fail
        go_roundg (L.ca.length - (k + 1))
        case measure => omega
        case rel => exact ⟨k + 1, by simp, hlt, Nat.le_refl _, ⟨by rw [HS'.out]; rfl⟩, HW1, HG1, BP1⟩
    · obtain rfl : k = L.ca.length := by omega
      go_wp2_with fail
      simp only [Exit.inBlock, Exit.then, Exit.noGoto_ret]
      go_ret
      exact ⟨by rw [HS.out, Nat.sub_self]; rfl, WK.out.mono (by omega), HG.out⟩

end Go.Proofs.Ytkbdphjnpieceaa.G
