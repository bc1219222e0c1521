/- Contract of the exported hill.Reach. Printed by gen_h15.py. -/
import Derived.Test.YtkbdphjnpieceaaH14
namespace Go.Proofs.Ytkbdphjnpieceaa.G
open Go.RowKit Go.Proofs.YtkbdphjnpieceaaW.PrintWords Go.Proofs.YtkbdphjnpieceaaW.PrintLast Go.Proofs.YtkbdphjnpieceaaW.PrintMore
open Go.Sort (grow)
set_option linter.unusedVariables false
set_option linter.unusedSimpArgs false

theorem R_mb {α : Type} {d : Kd α} {e : Nat} {w w1 : World} {base mb : Nat} {v : Value} {xs : List α} {es : Array MapEntry} {clock : Nat} (h : Kd.R d e w base (fun _ => True) v xs) (hm : w.heap[mb]? = some (.map es clock)) (hg : w.grownBy w1 (some mb)) : Kd.R d e w1 base (fun _ => True) v xs :=
  Kd.R_mono (Kd.R_grown (Kd.R_bound h) hg (fun k hk e => by
    obtain ⟨_, _, _, q, _, cells, hc⟩ := hk
    injection e with e
    rw [e, hm] at hc
    cases hc)) (fun _ _ => trivial)
def filK (p : Int → Bool) (k : Nat) : List Int := ((List.range k).map Int.ofNat).filter p
theorem filK_succ (p : Int → Bool) (k : Nat) : filK p (k + 1) = if p k = true then filK p k ++ [(k : Int)] else filK p k := by
  unfold filK
  rw [List.range_succ, List.map_append, List.filter_append]
  by_cases h : p k = true
  · rw [if_pos h]; simp [h]
  · rw [if_neg h]; simp [h]
theorem filK_len (p : Int → Bool) (k : Nat) : (filK p k).length ≤ k := by
  unfold filK
  exact Nat.le_trans (List.length_filter_le _ _) (by simp)
theorem ask_ne2 {n c s : Nat} {f t k h : Int} (h0 : askF n c s f t k h ≠ 2) : (0 ≤ f ∧ f < n) ∧ (0 ≤ t ∧ t < n) ∧ (0 ≤ k ∧ k < c) ∧ 0 ≤ h ∧ h < s := by
  unfold askF at h0
  have h1 : ¬ (inB f 0 ((n : Int) - 1) = false) := fun c => by rw [if_pos c] at h0; exact absurd rfl h0
  rw [if_neg h1] at h0
  have h2 : ¬ (inB t 0 ((n : Int) - 1) = false) := fun c => by rw [if_pos c] at h0; exact absurd rfl h0
  rw [if_neg h2] at h0
  have h3 : ¬ (inB k 0 ((c : Int) - 1) = false) := fun c => by rw [if_pos c] at h0; exact absurd rfl h0
  rw [if_neg h3] at h0
  have h4 : ¬ (inB h 0 ((s : Int) - 1) = false) := fun c => by rw [if_pos c] at h0; exact absurd rfl h0
  simp only [Bool.not_eq_false, inB_iff] at h1 h2 h3 h4
  exact ⟨⟨by omega, by omega⟩, ⟨by omega, by omega⟩, ⟨by omega, by omega⟩, by omega, by omega⟩
theorem Wk.mbmap {L : Lv} {g mb n : Nat} {N : Nat → Prop} {w : World} (h : Wk L g mb n N w) : ∃ es clock, w.heap[mb]? = some (.map es clock) := by
  obtain ⟨es, clock, h1, _⟩ := h.memo.ex
  exact ⟨es, clock, h1⟩
/-- A list of one's own is appended to: the lists of the memo are others. -/
theorem Wk.row {L : Lv} {g mb n : Nat} {W W1 : World} {v v1 : Value} {xs : List Int} {base : Nat} (hI : L.In W1) (h : Wk L g mb n (fun b => some b ≠ v.ownBlock) W) (hR : Kd.R (Kd.int .i64) 3 W base (fun _ => True) v xs)
    (hg : W.grownBy W1 v.ownBlock) (hat : v1.ownBlock = v.ownBlock ∨ ∃ b, v1.ownBlock = some b ∧ W.heap.size ≤ b) : Wk L g mb n (fun b => some b ≠ v1.ownBlock) W1 := by
  obtain ⟨es, clock, h1, h2, h3, h4⟩ := h.lies.memo.ex
  have hmb : some mb ≠ v.ownBlock := fun e => by
    obtain ⟨_, _, _, q, _, cells, hc⟩ := (Kd.R_bound hR).1 mb e.symm
    rw [h1] at hc
    cases hc
  refine ⟨hI, blk_grown h.blk hg (Kd.R_ne hR h.blk (by decide)), ⟨es, clock, blk_grown h1 hg hmb, h2, h3, fun x hx f t e => ?_⟩⟩
  obtain ⟨A, c, e1, e2, e3⟩ := h4 x hx f t e
  refine ⟨A, c, e1, ?_, fun ad ha hl => ?_⟩
  · refine ⟨e2.1, e2.2.1, fun hn => ?_⟩
    obtain ⟨ad, ea, hc⟩ := e2.2.2 hn
    refine ⟨ad, ea, fun j p hj => ?_⟩
    obtain ⟨cc, q1, q2, q3⟩ := hc j p hj
    refine ⟨cc, q1, q2, fun i u hu => ?_⟩
    exact hg.cell (q3 i u hu) (by rw [add_blk]; exact (e3 ad ea hn).1)
  · obtain ⟨n1, n2⟩ := e3 ad ha hl
    rcases hat with hat | ⟨b, hb1, hb2⟩
    · rw [hat]; exact n1
    · rw [hb1]; exact fun e => by injection e with e; omega
/-- hill.Reach. -/
def reachE (L : Lv) (f k h : Int) : List Int × Int :=
  if L.check ≠ 0 then ([], L.check) else if L.ask f f k h = 2 then ([], 2) else (filK (fun t => canF L f t k h) L.st.length, 0)

set_option maxHeartbeats 1000000 in
theorem Reach_c (L : Lv) (f k h : Int) (w : World) (hI : L.In w) :
    Calls Try.prog 19 #[.agg #[.slice L.A0 L.st.length L.c0, .slice L.A1 L.ri.length L.c1, .slice L.A2 L.ca.length L.c2, .slice L.A3 L.su.length L.c3], .int .i64 f, .int .i64 k, .int .i64 h] w
      fun e w' => ∃ v : Value, e = .returned (.tuple #[v, .int .i64 (reachE L f k h).2]) ∧ Kd.R (Kd.int .i64) 3 w' w.heap.size (fun _ => True) v (reachE L f k h).1 ∧ Below w.heap.size w w' := by
  have HI := Aside0.mk hI
  have hl0 := hI.r0.2.1
  have hl2 := hI.r2.2.1
  have hl3 := hI.r3.2.1
  clear hI
  have HE : Aside0 (reachE L f k h = if L.check ≠ 0 then ([], L.check) else if L.ask f f k h = 2 then ([], 2) else (filK (fun t => canF L f t k h) L.st.length, 0)) := ⟨rfl⟩
  go_enter Try.func19, Try.ntmps19
  go_wp2_with fail
  refine (work_c L _ (HI.out.below (b1 _ _))).mono ?_
  rintro e w1 ⟨hb1, ⟨hk, rfl⟩ | ⟨hk, g, mb, rfl, hg, hm, hW⟩⟩
  · have HB := Aside0.mk (bt (b1 _ _) hb1)
    have HK := Aside0.mk hk
    generalize L.check = c at *
    go_wp2_with fail
    ((try simp only [Exit.inBlock, Exit.then]); refine bodyPost_ret (results_tmp2 rfl _ _ _) rfl ?_)
    exact ⟨.slice none 0 0, by rw [HE.out, if_pos HK.out]; rfl, by rw [HE.out, if_pos HK.out]; exact Kd.R_nil _ _ _ _ _, HB.out⟩
  · have HK := Aside0.mk hk
    have HB := Aside0.mk (bt (b1 w (.cells #[.slice L.A0 L.st.length L.c0, .slice L.A1 L.ri.length L.c1, .slice L.A2 L.ca.length L.c2, .slice L.A3 L.su.length L.c3] 39)) hb1)
    have d0 := cb hb1 (cnew (w := w) (cs := #[.slice L.A0 L.st.length L.c0, .slice L.A1 L.ri.length L.c1, .slice L.A2 L.ca.length L.c2, .slice L.A3 L.su.length L.c3]) (t := 39) (i := 0) rfl rfl)
    have d1 := cb hb1 (cnew (w := w) (cs := #[.slice L.A0 L.st.length L.c0, .slice L.A1 L.ri.length L.c1, .slice L.A2 L.ca.length L.c2, .slice L.A3 L.su.length L.c3]) (t := 39) (i := 1) rfl rfl)
    have d2 := cb hb1 (cnew (w := w) (cs := #[.slice L.A0 L.st.length L.c0, .slice L.A1 L.ri.length L.c1, .slice L.A2 L.ca.length L.c2, .slice L.A3 L.su.length L.c3]) (t := 39) (i := 2) rfl rfl)
    have d3 := cb hb1 (cnew (w := w) (cs := #[.slice L.A0 L.st.length L.c0, .slice L.A1 L.ri.length L.c1, .slice L.A2 L.ca.length L.c2, .slice L.A3 L.su.length L.c3]) (t := 39) (i := 3) rfl rfl)
    have HD := Aside0.mk (And.intro d0 (And.intro d1 (And.intro d2 d3)))
    simp only [World.size_alloc] at hg hm
    have HW := Aside0.mk hW
    have hsz := hb1.size
    simp only [World.size_alloc] at hsz
    clear hb1 hk hW
    have hne : w.heap.size ≠ w1.heap.size := by omega
    have hlt : w.heap.size < w1.heap.size := by omega
    go_wp2_with fail
    have HA : Aside0 (L.ask f f k h = askF L.st.length L.ca.length L.su.length f f k h) := ⟨rfl⟩
    refine (asked_c L.A0 L.A1 L.A2 L.A3 _ _ _ _ L.c0 L.c1 L.c2 L.c3 hl0 hl2 hl3 f f k h _).mono ?_
    rintro e w2 ⟨rfl, hb2⟩
    by_cases hak : askF L.st.length L.ca.length L.su.length f f k h = 2
    · have HB3 := Aside0.mk hb2
      have HE' : Aside0 (reachE L f k h = ([], 2)) := ⟨by rw [HE.out, if_neg (by rw [HK.out]; decide), if_pos (by rw [HA.out]; exact hak)]⟩
      rw [hak]
      clear hb2 hak
      go_wp2_with fail
      ((try simp only [Exit.inBlock, Exit.then]); refine bodyPost_ret (results_tmp2 rfl _ _ _) rfl ?_)
      exact ⟨.slice none 0 0, by rw [HE'.out]; rfl, by rw [HE'.out]; exact Kd.R_nil _ _ _ _ _, bt HB.out HB3.out⟩
    · have HAK := Aside0.mk (ask_ne2 hak)
      have HE' : Aside0 (reachE L f k h = (filK (fun t => canF L f t k h) L.st.length, 0)) := ⟨by rw [HE.out, if_neg (by rw [HK.out]; decide), if_neg (by rw [HA.out]; exact hak)]⟩
      have HB4 := Aside0.mk (bt HB.out hb2)
      replace HW := Aside0.mk (HW.out.below hb2)
      have d0 := cb hb2 HD.out.1
      clear hb2
      generalize askF L.st.length L.ca.length L.su.length f f k h = ak at *
      have hak2 : (ak == 2) = false := by simpa using hak
      go_wp2_with fail
      (try simp only [hak2])
      clear hak2
      obtain ⟨⟨a1, a2⟩, _, ⟨a5, a6⟩, a7, a8⟩ := HAK.out
      go_loopg [13, 36] L.st.length (fun gg s13 s36 wr => ∃ i : Nat, s36 = .int .i64 (i : Int) ∧ i ≤ L.st.length ∧ L.st.length - i ≤ gg ∧ Aside0 (Kd.R (Kd.int .i64) 3 wr w.heap.size (fun _ => True) s13 (filK (fun t => canF L f t k h) i)) ∧ Aside0 (Wk L g mb i (fun b => some b ≠ s13.ownBlock) wr) ∧ Aside0 (Below w.heap.size w wr))
      case atStart => exact ⟨0, rfl, Nat.zero_le _, Nat.le_refl _, ⟨Kd.R_nil _ _ _ _ _⟩, ⟨HW.out.imp fun _ _ => by simp [Value.ownBlock]⟩, HB4⟩
      case round =>
        clear HW HB4 d0 d1 d2 d3 HD
        obtain ⟨i, rfl, hi, hg', HR, HW, HB4⟩ := hrel
        by_cases hlt : i < L.st.length
        · have hlti : (i : Int) < L.st.length := by omega
          have h6 := (Lv.ok_of HK.out).st6
          have HS := Aside0.mk (filK_succ (fun t => canF L f t k h) i)
          have hlk := filK_len (fun t => canF L f t k h) i
          go_wp2_with fail
          refine (can_c L g mb i f i k h _ (fun b hb e => by obtain ⟨_, h2, _⟩ := (Kd.R_bound HR.out).1 b e.symm; have := h2; omega) HW.out (Lv.ok_of HK.out) (by omega) a1 a2 (by omega) hlti a5 a6 a7 a8).mono ?_
          rintro e w3 ⟨rfl, hW3, hg3⟩
          obtain ⟨es, clock, hmb⟩ := HW.out.mbmap
          have HR3 := Aside0.mk (R_mb HR.out hmb hg3)
          have HB5 := Aside0.mk (Below.grown HB4.out hg3 HB4.out.size (fun k e => by injection e with e; omega))
          have HW3 := Aside0.mk hW3
          clear hW3 hg3 hmb HR HW HB4
          have HS' : Aside0 (filK (fun t => canF L f t k h) (i + 1) = if canF L f i k h = true then filK (fun t => canF L f t k h) i ++ [(i : Int)] else filK (fun t => canF L f t k h) i) := ⟨HS.out⟩
          clear HS
          generalize hcv : canF L f i k h = cv at *
          have HCV := Aside0.mk hcv
          clear hcv
          cases cv
          · go_wp2_with fail
            go_roundg (L.st.length - (i + 1))
            case measure => omega
            case rel => exact ⟨i + 1, by simp, hlt, Nat.le_refl _, ⟨by rw [HS'.out]; simpa using HR3.out⟩, HW3, HB5⟩
          · go_wp2_with (first | ((with_reducible refine gate_builtin (b := .append) (xs := #[.tmp 46, .tmp 48]) rfl ?_); at_builtin; refine Kd.R_append (Kd.int .i64) (w0 := w) w.heap.size rfl (.tmp 46) (.tmp 48) 30 3 (.int .i64 0) 8 rfl Try.underlying30 info3 rfl (by decide) (by omega) _ (filK (fun t => canF L f t k h) i) (i : Int) [.int .i64 (i : Int)] (fun _ => True) (fun _ => False) rfl rfl ?aP (fun _ hk => hk.elim) ?aF ?aO ?aB ?aS ?aL ?_; (case aP => exact rfl); (case aB => exact HB5.out); (case aF => exact (fun _ _ => trivial)); (case aO => exact HR3.out); (case aS => exact below_size HB5.out); (case aL => omega); intro v3 w4 ho hb hg4 hat; have HW4 := Aside0.mk (Wk.row (HI.out.below hb) HW3.out HR3.out hg4 hat); have HB6 := Aside0.mk hb; have HR4 := Aside0.mk ho; clear ho hb hg4 hat HR3 HW3 HB5))
            go_roundg (L.st.length - (i + 1))
            case measure => omega
            case rel => exact ⟨i + 1, by simp, hlt, Nat.le_refl _, ⟨by rw [HS'.out]; simpa using HR4.out⟩, HW4, HB6⟩
        · obtain rfl : i = L.st.length := by omega
          go_wp2_with fail
          ((try simp only [Exit.inBlock, Exit.then]); refine bodyPost_ret (results_tmp2 rfl _ _ _) rfl ?_)
          exact ⟨_, by rw [HE'.out]; rfl, by rw [HE'.out]; exact HR.out, HB4.out⟩

end Go.Proofs.Ytkbdphjnpieceaa.G
