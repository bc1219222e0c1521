/- The land under work: its memory, hill.Land.work, hill.Land.asked. -/
import Derived.Test.YtkbdphjnpieceaaH4
import Derived.Test.YtkbdphjnpieceaaH6
import Derived.Maps.Keyed
import Derived.Maps.Own
import Derived.DeepKeys4
import Derived.WalkArith
namespace Go.Proofs.Ytkbdphjnpieceaa.G
open Go.RowKit Go.Proofs.YtkbdphjnpieceaaW.PrintWords Go.Proofs.YtkbdphjnpieceaaW.PrintLast Go.Proofs.YtkbdphjnpieceaaW.PrintMore
open Go.Sort (grow)
set_option linter.unusedVariables false
set_option linter.unusedSimpArgs false


theorem keyed95 : Go.Maps.Keyed Try.prog 95 := Go.Maps.Keyed.of_law (deep_law_laid (m := 3) (by kernel_rfl) (by decide) (Nat.le_of_ble_eq_true (by kernel_rfl)) (by kernel_rfl) (by kernel_rfl))

/-- A number that Go's int holds. -/
def fits (n : Int) : Prop := -9223372036854775808 ≤ n ∧ n ≤ 9223372036854775807
def pr (f t : Int) : Value := .agg #[.int .i64 f, .int .i64 t]
theorem key_pr {f t : Int} (hf : fits f) (ht : fits t) : ∃ l, keyOf Try.prog 95 (pr f t) = some l := by
  have h1 : (Lit.int .i64 f).wf = true := WalkArith.wf_i64 hf
  have h2 : (Lit.int .i64 t).wf = true := WalkArith.wf_i64 ht
  have hu := Try.underlying95
  have hu3 : Try.prog.underlying 3 = some (.int .i64) := by kernel_rfl
  have hk : Try.prog.keyType 95 = true := by kernel_rfl
  have hc : Try.prog.cellsOf 95 = 2 := by kernel_rfl
  have hc3 : Try.prog.cellsOf 3 = 1 := by kernel_rfl
  refine ⟨.string (keyBytes [.int .i64 f, .int .i64 t]), ?_⟩
  obtain ⟨m, hm⟩ : ∃ m, Try.prog.types.size = m + 1 := ⟨Try.prog.types.size - 1, by
    have h := Nat.le_of_ble_eq_true (show Nat.ble 1 Try.prog.types.size = true by kernel_rfl)
    omega⟩
  unfold keyOf pr
  simp only [hu]
  rw [if_pos (by simp [hk, Value.formed, hu, hc]), hm]
  unfold Program.keyLits
  simp only [hu, Value.cells]
  rw [if_pos (by rw [hc]; exact ⟨rfl, by simp⟩)]
  simp [hc3, Program.keyLits, hu3, h1, h2]

/-- A land in memory. -/
structure Lv where
  st : List S85
  ri : List S86
  ca : List (List S88)
  su : List S99
  A0 : Option Addr
  A1 : Option Addr
  A2 : Option Addr
  A3 : Option Addr
  c0 : Nat
  c1 : Nat
  c2 : Nat
  c3 : Nat
def Lv.cells (L : Lv) : Array Value := #[.slice L.A0 L.st.length L.c0, .slice L.A1 L.ri.length L.c1, .slice L.A2 L.ca.length L.c2, .slice L.A3 L.su.length L.c3]
structure Lv.In (L : Lv) (w : World) : Prop where
  r0 : Kd.C k85 w L.A0 L.st.length L.st
  h0 : L.st.length ≤ L.c0
  r1 : Kd.C k86 w L.A1 L.ri.length L.ri
  r2 : Kd.C (Kd.slice 88 k88) w L.A2 L.ca.length L.ca
  r3 : Kd.C k99 w L.A3 L.su.length L.su
def Lv.check (L : Lv) : Int := checkF L.st L.ri L.ca L.su
/-- The ridges that block. -/
def ridgesL (L : Lv) (f t : Int) : List Int := ((List.range L.ri.length).map Int.ofNat).filter fun i => blocksB (rd_T86 L.ri i) (rd_T85 L.st f) (rd_T85 L.st t)
def Rk : Value → Option (DataW Nat × List MemPlace) := fun _ => some (.map [], [])
/-- What the map of known ridges holds. -/
structure Memo (L : Lv) (mb n : Nat) (N : Nat → Prop) (w : World) : Prop where
  ex : ∃ es clock, w.heap[mb]? = some (.map es clock) ∧ Go.WideElems.Fit Try.prog 95 Rk es clock ∧ es.size ≤ n ∧
    ∀ x ∈ es.toList, ∀ f t, x.key = pr f t → ∃ A c, x.val = .slice A (ridgesL L f t).length c ∧ Kd.C (Kd.int .i64) w A (ridgesL L f t).length (ridgesL L f t) ∧ ∀ ad, A = some ad → 0 < (ridgesL L f t).length → N ad.block
structure Wk (L : Lv) (g mb n : Nat) (N : Nat → Prop) (w : World) : Prop where
  land : L.In w
  blk : w.heap[g]? = some (.cells #[.slice L.A0 L.st.length L.c0, .slice L.A1 L.ri.length L.c1, .slice L.A2 L.ca.length L.c2, .slice L.A3 L.su.length L.c3, .map (some mb)] 127 (0, 0))
  memo : Memo L mb n N w

theorem Lv.In.below {L : Lv} {w w1 : World} (h : L.In w) (hb : Below w.heap.size w w1) : L.In w1 := ⟨Kd.C_below h.r0 hb, h.h0, Kd.C_below h.r1 hb, Kd.C_below h.r2 hb, Kd.C_below h.r3 hb⟩
theorem Memo.below {L : Lv} {mb n : Nat} {N : Nat → Prop} {w w1 : World} (h : Memo L mb n N w) (hb : Below w.heap.size w w1) : Memo L mb n N w1 := by
  obtain ⟨es, clock, h1, h2, h3, h4⟩ := h.ex
  refine ⟨es, clock, blk_below h1 hb, h2, h3, fun x hx f t e => ?_⟩
  obtain ⟨A, c, e1, e2, e3⟩ := h4 x hx f t e
  exact ⟨A, c, e1, Kd.C_below e2 hb, e3⟩
theorem Wk.below {L : Lv} {g mb n : Nat} {N : Nat → Prop} {w w1 : World} (h : Wk L g mb n N w) (hb : Below w.heap.size w w1) : Wk L g mb n N w1 := ⟨h.land.below hb, blk_below h.blk hb, h.memo.below hb⟩

set_option maxHeartbeats 1000000 in
theorem work_c (L : Lv) (w : World) (h : L.In w) :
    Calls Try.prog 45 #[.agg #[.slice L.A0 L.st.length L.c0, .slice L.A1 L.ri.length L.c1, .slice L.A2 L.ca.length L.c2, .slice L.A3 L.su.length L.c3]] w
      fun e w' => Below w.heap.size w w' ∧ ((L.check ≠ 0 ∧ e = .returned (.tuple #[.pointer none, .int .i64 L.check])) ∨
        (L.check = 0 ∧ ∃ g mb, e = .returned (.tuple #[.pointer (some ⟨g, 0, none⟩), .int .i64 0]) ∧ w.heap.size ≤ g ∧ w.heap.size ≤ mb ∧ Wk L g mb 0 (fun _ => True) w')) := by
  have HC := Aside0.mk fun W hb => check_c L.st L.ri L.ca L.su L.A0 L.A1 L.A2 L.A3 L.c0 L.c1 L.c2 L.c3 W (Kd.C_below h.r0 hb) h.h0 (Kd.C_below h.r1 hb) (Kd.C_below h.r2 hb) (Kd.C_below h.r3 hb)
  have HL := Aside0.mk h
  clear h
  have HK : Aside0 (L.check = checkF L.st L.ri L.ca L.su) := ⟨rfl⟩
  have hmm := @run_makeMap Try.prog
  go_enter Try.func45, Try.ntmps45
  go_wp2_with fail
  refine (HC.out _ (b1 _ _)).mono ?_
  rintro e w1 ⟨rfl, hb1⟩
  generalize checkF L.st L.ri L.ca L.su = k at *
  by_cases hk : k = 0
  · have hd0 := cb hb1 (cnew (w := w) (cs := #[.slice L.A0 L.st.length L.c0, .slice L.A1 L.ri.length L.c1, .slice L.A2 L.ca.length L.c2, .slice L.A3 L.su.length L.c3]) (t := 39) (i := 0) rfl rfl)
    have hd1 := cb hb1 (cnew (w := w) (cs := #[.slice L.A0 L.st.length L.c0, .slice L.A1 L.ri.length L.c1, .slice L.A2 L.ca.length L.c2, .slice L.A3 L.su.length L.c3]) (t := 39) (i := 1) rfl rfl)
    have hd2 := cb hb1 (cnew (w := w) (cs := #[.slice L.A0 L.st.length L.c0, .slice L.A1 L.ri.length L.c1, .slice L.A2 L.ca.length L.c2, .slice L.A3 L.su.length L.c3]) (t := 39) (i := 2) rfl rfl)
    have hd3 := cb hb1 (cnew (w := w) (cs := #[.slice L.A0 L.st.length L.c0, .slice L.A1 L.ri.length L.c1, .slice L.A2 L.ca.length L.c2, .slice L.A3 L.su.length L.c3]) (t := 39) (i := 3) rfl rfl)
    go_wp2_with fail
    ((try simp only [Exit.inBlock, Exit.then]); refine bodyPost_ret (results_tmp2 rfl _ _ _) rfl ?_)
    have hs := hb1.size
    simp only [World.size_alloc] at hs
    refine ⟨below_alloc (below_alloc (bt (b1 _ _) hb1) _) _, .inr ⟨by rw [HK.out]; exact hk, w1.heap.size + 1, w1.heap.size, rfl, by omega, by omega, ?_, ?_, ⟨#[], 0, ?_, ⟨by decide, ?_, ?_⟩, by simp, by simp⟩⟩⟩
    · exact HL.out.below (below_alloc (below_alloc (bt (b1 _ _) hb1) _) _)
    · have h := blk_new (w1.alloc (.map #[] 0)) (.cells #[.slice L.A0 L.st.length L.c0, .slice L.A1 L.ri.length L.c1, .slice L.A2 L.ca.length L.c2, .slice L.A3 L.su.length L.c3, .map (some w1.heap.size)] 127)
      rwa [World.size_alloc] at h
    · exact blk_alloc (blk_new _ _) _
    · exact Go.MapKept.stamped_empty 0
    · simp
  · go_wp2_with fail
    ((try simp only [Exit.inBlock, Exit.then]); refine bodyPost_ret (results_tmp2 rfl _ _ _) rfl ?_)
    refine ⟨bt (b1 _ _) hb1, .inl ⟨by rw [HK.out]; exact hk, by rw [HK.out]; rfl⟩⟩

/-- The error of stations, a case and an hour. -/
def askF (n c s : Nat) (f t k h : Int) : Int :=
  if inB f 0 (n - 1) = false then 2 else if inB t 0 (n - 1) = false then 2 else if inB k 0 (c - 1) = false then 2 else if inB h 0 (s - 1) = false then 2 else if f = t then 6 else 0

theorem asked_c (A0 A1 A2 A3 : Option Addr) (n r c s : Nat) (c0 c1 c2 c3 : Nat) (hn : n ≤ 9223372036854775807) (hc : c ≤ 9223372036854775807) (hs : s ≤ 9223372036854775807) (f t k h : Int) (w : World) :
    Calls Try.prog 46 #[.agg #[.slice A0 n c0, .slice A1 r c1, .slice A2 c c2, .slice A3 s c3], .agg #[.int .i64 f, .int .i64 t], .int .i64 k, .int .i64 h] w
      fun e w' => e = .returned (.int .i64 (askF n c s f t k h)) ∧ Below w.heap.size w w' := by
  have HR : Aside0 (askF n c s f t k h = if inB f 0 (n - 1) = false then 2 else if inB t 0 (n - 1) = false then 2 else if inB k 0 (c - 1) = false then 2 else if inB h 0 (s - 1) = false then 2 else if f = t then 6 else 0) := ⟨rfl⟩
  have e1 : wrap64 ((n : Int) - 1) = n - 1 := wr64 (by omega) (by omega)
  have e2 : wrap64 ((c : Int) - 1) = c - 1 := wr64 (by omega) (by omega)
  have e3 : wrap64 ((s : Int) - 1) = s - 1 := wr64 (by omega) (by omega)
  go_enter Try.func46, Try.ntmps46
  go_wp2_with fail
  refine (within_c _ _ _ _).mono ?_
  rintro e w1 ⟨rfl, rfl⟩
  generalize inB f 0 ((n : Int) - 1) = r0 at *
  cases r0
  · go_wp2_with fail
    go_ret
    exact ⟨by rw [HR.out]; rfl, below_alloc (b1 _ _) _⟩
  go_wp2_with fail
  refine (within_c _ _ _ _).mono ?_
  rintro e w2 ⟨rfl, rfl⟩
  generalize inB t 0 ((n : Int) - 1) = r1 at *
  cases r1
  · go_wp2_with fail
    go_ret
    exact ⟨by rw [HR.out]; rfl, below_alloc (b1 _ _) _⟩
  go_wp2_with fail
  refine (within_c _ _ _ _).mono ?_
  rintro e w3 ⟨rfl, rfl⟩
  generalize inB k 0 ((c : Int) - 1) = r2 at *
  cases r2
  · go_wp2_with fail
    go_ret
    exact ⟨by rw [HR.out]; rfl, below_alloc (b1 _ _) _⟩
  go_wp2_with fail
  refine (within_c _ _ _ _).mono ?_
  rintro e w4 ⟨rfl, rfl⟩
  generalize inB h 0 ((s : Int) - 1) = r3 at *
  cases r3
  · go_wp2_with fail
    go_ret
    exact ⟨by rw [HR.out]; rfl, below_alloc (b1 _ _) _⟩
  by_cases hft : f = t
  · subst hft
    go_wp2_with fail
    go_ret
    exact ⟨by rw [HR.out]; simp, below_alloc (b1 _ _) _⟩
  · go_wp2_with fail
    go_ret
    exact ⟨by rw [HR.out]; simp [hft], below_alloc (b1 _ _) _⟩

end Go.Proofs.Ytkbdphjnpieceaa.G
