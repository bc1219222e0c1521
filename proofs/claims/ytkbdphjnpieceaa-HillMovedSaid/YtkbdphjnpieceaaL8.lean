/- The law's within, pair. -/
import Derived.Test.YtkbdphjnpieceaaL7
namespace Go.Proofs.Ytkbdphjnpieceaa.G
open Go.RowKit Go.Proofs.YtkbdphjnpieceaaW.PrintWords Go.Proofs.YtkbdphjnpieceaaW.PrintLast Go.Proofs.YtkbdphjnpieceaaW.PrintMore
set_option linter.unusedVariables false
set_option linter.unusedSimpArgs false
open Go.Sort (grow)

def anyK (p : Int → Bool) (k : Nat) : Bool := (List.range k).any fun j => p j
theorem anyK_succ (p : Int → Bool) (k : Nat) : anyK p (k + 1) = (anyK p k || p k) := by
  unfold anyK
  rw [List.range_succ, List.any_append]
  simp
theorem anyK_mono {p : Int → Bool} {k n : Nat} (h : k ≤ n) (hk : anyK p k = true) : anyK p n = true := by
  unfold anyK at hk ⊢
  rw [List.any_eq_true] at hk ⊢
  obtain ⟨x, hx, hp⟩ := hk
  exact ⟨x, by rw [List.mem_range] at hx ⊢; omega, hp⟩
/-- Are all numbers of a list in another one? -/
def withinB (xs ys : List Int) : Bool := allK (fun i => anyK (fun j => rd ys j == rd xs i) ys.length) xs.length
theorem withinB_iff {xs ys : List Int} : withinB xs ys = true ↔ ∀ x ∈ xs, x ∈ ys := by
  unfold withinB allK anyK
  simp only [List.all_eq_true, List.any_eq_true, List.mem_range, beq_iff_eq]
  constructor
  · intro h x hx
    obtain ⟨i, hi, rfl⟩ := List.getElem_of_mem hx
    obtain ⟨j, hj, e⟩ := h i hi
    rw [rd_get hi, rd_get hj] at e
    rw [← e]
    exact List.getElem_mem hj
  · intro h i hi
    obtain ⟨j, hj, e⟩ := List.getElem_of_mem (h _ (List.getElem_mem hi))
    exact ⟨j, hj, by rw [rd_get hi, rd_get hj, e]⟩
set_option maxHeartbeats 4000000 in
theorem within_l (A B : Option Addr) (ca cbb : Nat) (xs ys : List Int) (w : World) (ha : Kd.C (Kd.int .i64) w A xs.length xs) (hb : Kd.C (Kd.int .i64) w B ys.length ys) :
    Calls Try.prog 34 #[.slice A xs.length ca, .slice B ys.length cbb] w fun e w' => e = .returned (.bool (withinB xs ys)) ∧ Below w.heap.size w w' := by
  have la := ha.2.1
  have lb := hb.2.1
  have HA := Aside0.mk ha
  have HB := Aside0.mk hb
  clear ha hb
  have HV : Aside0 (withinB xs ys = allK (fun i => anyK (fun j => rd ys j == rd xs i) ys.length) xs.length) := ⟨rfl⟩
  generalize withinB xs ys = v at *
  go_enter Try.func34, Try.ntmps34
  go_wp2_with fail
  go_loopg [5] xs.length (fun gg s5 wr => ∃ i : Int, s5 = .int .i64 i ∧ 0 ≤ i ∧ i ≤ (xs.length : Int) ∧ (xs.length : Int) - i ≤ (gg : Int) ∧ Aside0 (Below w.heap.size w wr) ∧ Aside0 (allK (fun i => anyK (fun j => rd ys j == rd xs i) ys.length) i.toNat = true))
  case atStart => exact ⟨0, rfl, by omega, by omega, by omega, ⟨Below.refl _ _⟩, ⟨rfl⟩⟩
  case round =>
    obtain ⟨i, rfl, h0, h1, hg, BW, BA⟩ := hrel
    obtain ⟨W2, rfl⟩ : ∃ W2 : World, W2 = wr := ⟨_, rfl⟩
    by_cases hlt : i < (xs.length : Int)
    · have HS := Aside0.mk (allK_succ (fun i => anyK (fun j => rd ys j == rd xs i) ys.length) i.toNat)
      have ei : ((i.toNat : Nat) : Int) = i := Int.toNat_of_nonneg h0
      rw [ei] at HS
      have HS1 : Aside0 ((i + 1).toNat = i.toNat + 1) := ⟨by omega⟩
      clear ei
      obtain ⟨aa, ea, xa0⟩ := Kd.at_int (Kd.C_below HA.out BW.out) i h0 hlt
      subst ea
      have XA := Aside0.mk xa0
      clear xa0
      go_wp2_with fail
      go_loopg [6, 7] ys.length (fun gg s6 s7 wr => ∃ k : Int, s7 = .int .i64 k ∧ s6 = .bool (anyK (fun j => rd ys j == rd xs i) k.toNat) ∧ 0 ≤ k ∧ k ≤ (ys.length : Int) ∧ (ys.length : Int) - k ≤ (gg : Int) ∧ Aside0 (Below W2.heap.size W2 wr))
      case atStart => exact ⟨0, rfl, rfl, by omega, by omega, by omega, ⟨Below.refl _ _⟩⟩
      case round =>
        obtain ⟨k, rfl, rfl, k0, k1, hgk, BK⟩ := hrel
        obtain ⟨W3, rfl⟩ : ∃ W3 : World, W3 = wr := ⟨_, rfl⟩
        by_cases hkt : k < (ys.length : Int)
        · have HK := Aside0.mk (anyK_succ (fun j => rd ys j == rd xs i) k.toNat)
          have ek : ((k.toNat : Nat) : Int) = k := Int.toNat_of_nonneg k0
          rw [ek] at HK
          have HK1 : Aside0 ((k + 1).toNat = k.toNat + 1) := ⟨by omega⟩
          clear ek
          obtain ⟨ab, eb, xb⟩ := Kd.at_int (Kd.C_below (Kd.C_below HB.out BW.out) BK.out) k k0 hkt
          subst eb
          have xa := cb BK.out XA.out
          cases han : anyK (fun j => rd ys j == rd xs i) k.toNat
          · have HE : Aside0 (anyK (fun j => rd ys j == rd xs i) (k + 1).toNat = (rd ys k == rd xs i)) := ⟨by rw [HK1.out, HK.out, han]; rfl⟩
            clear han
            go_wp2_with fail
            replace xa := fun d os => cell_regrown xa d os
            replace xb := fun d os => cell_regrown xb d os
            refine wp_region_quiet_below (by kernel_rfl) (by kernel_rfl) ?_
            repeat (go_big_quiet_step (fail))
            refine wpQuiet_nil ?_
            intro _ hw'
            obtain ⟨⟨dq, osq⟩, hw''⟩ := hw'
            subst hw''
            have BK2 := Aside0.mk (bt BK.out (below_regrown W3 dq osq))
            clear xa xb BK
            generalize grow (redrawn W3 dq) osq = W4 at *
            go_wp2_with fail
            go_roundg (ys.length - (k + 1).toNat)
            case measure => omega
            case rel => exact ⟨k + 1, by first | rfl | go_num, by rw [HE.out], by omega, by omega, by omega, BK2⟩
          · have HE : Aside0 (anyK (fun j => rd ys j == rd xs i) (k + 1).toNat = true) := ⟨by rw [HK1.out, HK.out, han]; rfl⟩
            clear han
            go_wp2_with fail
            replace xa := fun d os => cell_regrown xa d os
            replace xb := fun d os => cell_regrown xb d os
            refine wp_region_quiet_below (by kernel_rfl) (by kernel_rfl) ?_
            repeat (go_big_quiet_step (fail))
            refine wpQuiet_nil ?_
            intro _ hw'
            obtain ⟨⟨dq, osq⟩, hw''⟩ := hw'
            subst hw''
            have BK2 := Aside0.mk (bt BK.out (below_regrown W3 dq osq))
            clear xa xb BK
            generalize grow (redrawn W3 dq) osq = W4 at *
            go_wp2_with fail
            go_roundg (ys.length - (k + 1).toNat)
            case measure => omega
            case rel => exact ⟨k + 1, by first | rfl | go_num, by rw [HE.out], by omega, by omega, by omega, BK2⟩
        · have e : k = (ys.length : Int) := by omega
          subst e
          rw [Int.toNat_natCast]
          have HN : Aside0 (anyK (fun j => rd ys j == rd xs i) ys.length = false → v = false) := ⟨fun h => by rw [HV.out]; exact allK_no h0 hlt h⟩
          generalize anyK (fun j => rd ys j == rd xs i) ys.length = an at *
          cases an
          · have HN2 := Aside0.mk (HN.out rfl)
            go_wp2_with fail
            go_ret
            exact ⟨ret_bool HN2.out.symm, bt BW.out BK.out⟩
          · go_wp2_with fail
            go_roundg (xs.length - (i + 1).toNat)
            case measure => omega
            case rel => exact ⟨i + 1, by first | rfl | go_num, by omega, by omega, by omega, ⟨bt BW.out BK.out⟩, ⟨by rw [HS1.out, HS.out, BA.out]; rfl⟩⟩
    · have e : i = (xs.length : Int) := by omega
      subst e
      have HV2 : Aside0 (v = true) := ⟨by rw [HV.out, ← BA.out, Int.toNat_natCast]⟩
      go_wp2_with fail
      go_ret
      exact ⟨ret_bool HV2.out.symm, BW.out⟩

/-- Two different stations, chosen by a number. -/
def pairA (n q : Int) : Int := q % n
def pairB (n q : Int) : Int := (q % n + 1 + q / 8 % (n - 1)) % n
theorem pair_bd {n q : Int} (hn : 2 ≤ n) (hq : 0 ≤ q) : (0 ≤ pairA n q ∧ pairA n q < n) ∧ (0 ≤ pairB n q ∧ pairB n q < n) ∧ pairA n q ≠ pairB n q := by
  have a1 := Int.emod_nonneg q (show n ≠ 0 by omega)
  have a2 := Int.emod_lt_of_pos q (show 0 < n by omega)
  have b1 := Int.emod_nonneg (q / 8) (show n - 1 ≠ 0 by omega)
  have b2 := Int.emod_lt_of_pos (q / 8) (show 0 < n - 1 by omega)
  have c1 := Int.emod_nonneg (q % n + 1 + q / 8 % (n - 1)) (show n ≠ 0 by omega)
  have c2 := Int.emod_lt_of_pos (q % n + 1 + q / 8 % (n - 1)) (show 0 < n by omega)
  unfold pairA pairB
  refine ⟨⟨a1, a2⟩, ⟨c1, c2⟩, fun e => ?_⟩
  generalize q % n = a at *
  generalize q / 8 % (n - 1) = b at *
  by_cases h : a + 1 + b < n
  · rw [Int.emod_eq_of_lt (by omega) h] at e
    omega
  · have : (a + 1 + b) % n = a + 1 + b - n := by
      rw [← Int.sub_emod_right, Int.emod_eq_of_lt (by omega) (by omega)]
    rw [this] at e
    omega
theorem u8_bd {q : Int} (h : (Lit.int .u8 q).wf = true) : 0 ≤ q ∧ q ≤ 255 := by
  have h' : (decide ((IntKind.u8).min ≤ q) && decide (q ≤ (IntKind.u8).max)) = true := h
  rw [Bool.and_eq_true, decide_eq_true_eq, decide_eq_true_eq] at h'
  exact h'
theorem u16_bd {q : Int} (h : (Lit.int .u16 q).wf = true) : 0 ≤ q ∧ q ≤ 65535 := by
  have h' : (decide ((IntKind.u16).min ≤ q) && decide (q ≤ (IntKind.u16).max)) = true := h
  rw [Bool.and_eq_true, decide_eq_true_eq, decide_eq_true_eq] at h'
  exact h'
theorem pair_w (n : Nat) (A0 A1 A2 A3 : Option Addr) (n1 n2 n3 c0 c1 c2 c3 : Nat) (q : Int) (w : World) (hn : 2 ≤ n) (hn2 : n ≤ 1000) (hq : 0 ≤ q) (hq2 : q ≤ 255) :
    Calls Try.prog 31 #[.agg #[.slice A0 n c0, .slice A1 n1 c1, .slice A2 n2 c2, .slice A3 n3 c3], .int .u8 q] w fun e w' => e = .returned (.tuple #[.int .i64 (pairA n q), .int .i64 (pairB n q)]) ∧ Below w.heap.size w w' := by
  go_enter Try.func31, Try.ntmps31
  go_wp2_with fail
  have a1 := Int.emod_nonneg q (show (n : Int) ≠ 0 by omega)
  have a2 := Int.emod_lt_of_pos q (show (0 : Int) < n by omega)
  have bb1 := Int.emod_nonneg (q / 8) (show (n : Int) - 1 ≠ 0 by omega)
  have b2 := Int.emod_lt_of_pos (q / 8) (show (0 : Int) < (n : Int) - 1 by omega)
  have b3 : 0 ≤ q / 8 ∧ q / 8 ≤ 31 := by omega
  go_region
  go_wp2_with fail
  ((try simp only [Exit.inBlock, Exit.then]); refine bodyPost_ret (results_tmp2 rfl _ _ _) rfl ?_)
  exact ⟨rfl, below_drew (b1 _ _)⟩
theorem pair_c (R : Rv) (q : Int) (w : World) (hn : 2 ≤ R.st.length) (hn2 : R.st.length ≤ 1000) (hq : (Lit.int .u8 q).wf = true) :
    Calls Try.prog 31 #[.agg R.cells, .int .u8 q] w fun e w' => e = .returned (.tuple #[.int .i64 (pairA R.st.length q), .int .i64 (pairB R.st.length q)]) ∧ Below w.heap.size w w' := by
  have h := u8_bd hq
  exact pair_w R.st.length R.A0 R.A1 R.A2 R.A3 R.ri.length R.ca.length R.su.length R.c0 R.c1 R.c2 R.c3 q w hn hn2 h.1 h.2
end Go.Proofs.Ytkbdphjnpieceaa.G
