/- Contracts of work.clouds, work.why, work.can. -/
import Derived.Test.YtkbdphjnpieceaaH10
import Derived.Lib.QuietBelowIn
namespace Go.Proofs.Ytkbdphjnpieceaa.G
open Go.RowKit Go.Proofs.YtkbdphjnpieceaaW.PrintWords Go.Proofs.YtkbdphjnpieceaaW.PrintLast Go.Proofs.YtkbdphjnpieceaaW.PrintMore
open Go.Sort (grow)
set_option linter.unusedVariables false
set_option linter.unusedSimpArgs false

attribute [local go_sem] Oper.semAt_some
def why.T3 : Bool × List (List Nat × List Nat) := (true, [([], []), ([], []), ([], []), ([0, 1, 2], [0, 1, 2]), ([], []), ([4], [4]), ([5], [5]), ([6], [6]), ([7], [7]), ([], []), ([9], [9]), ([8, 10], [8, 10]), ([11], [11]), ([12], [12]), ([3, 13], [3, 13]), ([14, 3], [14])])
def why.B3 : List Nat := [0, 0, 0, 7, 0, 16, 48, 112, 240, 0, 512, 2032, 4080, 8176, 16383, 32767]
theorem why.tab3 : rtab .any (opsOf Try.f65 3) = why.T3 := by kernel_rfl
theorem why.bits3 : waitsOk why.T3.2 why.B3 = true := by kernel_rfl
def why.T7 : Bool × List (List Nat × List Nat) := (true, [([], []), ([0], [0]), ([1], [1]), ([], []), ([2, 3, 0, 1, 2, 3], [2])])
def why.B7 : List Nat := [0, 1, 3, 0, 15]
theorem why.tab7 : rtab .any (opsOf Try.f65 7) = why.T7 := by kernel_rfl
theorem why.bits7 : waitsOk why.T7.2 why.B7 = true := by kernel_rfl
theorem clouds_c (g : Nat) (f t k h : Int) (w : World) :
    Calls Try.prog 64 #[.pointer (some ⟨g, 0, none⟩), .agg #[.int .i64 f, .int .i64 t], .int .i64 k, .int .i64 h] w fun e w' =>
      e = .returned (.func (.func 94) #[] #[.pointer (some ⟨w.heap.size, 0, none⟩), .pointer (some ⟨w.heap.size + 2, 0, none⟩), .pointer (some ⟨w.heap.size + 3, 0, none⟩), .pointer (some ⟨w.heap.size + 1, 0, none⟩)]) ∧
      Below w.heap.size w w' ∧ w'.cell? ⟨w.heap.size, 0, none⟩ = some (.pointer (some ⟨g, 0, none⟩)) ∧ w'.cell? ⟨w.heap.size + 2, 0, none⟩ = some (.int .i64 k) ∧ w'.cell? ⟨w.heap.size + 3, 0, none⟩ = some (.int .i64 h) ∧
      w'.cell? ⟨w.heap.size + 1, 0, none⟩ = some (.int .i64 f) ∧ w'.cell? ⟨w.heap.size + 1, 1, none⟩ = some (.int .i64 t) := by
  go_enter Try.func64, Try.ntmps64
  go_wp2
  go_ret
  refine ⟨rfl, below_alloc (below_alloc (below_alloc (b1 _ _) _) _) _, ?_, ?_, ?_, ?_, ?_⟩
  · exact cb (b1 _ _) (cb (b1 _ _) (cb (b1 _ _) (cnew rfl rfl)))
  · exact cb (b1 _ _) (cnew (by simp) rfl)
  · exact cnew (by simp) rfl
  · exact cb (b1 _ _) (cb (b1 _ _) (cnew (by simp) rfl))
  · exact cb (b1 _ _) (cb (b1 _ _) (cnew (by simp) rfl))

theorem res65 {tmps : Array Value} {w : World} {p8 p9 : Addr} {v8 v9 : Value} (h8 : tmps.getD 8 undef = .pointer (some p8)) (h9 : tmps.getD 9 undef = .pointer (some p9)) (c8 : w.cell? p8 = some v8) (c9 : w.cell? p9 = some v9) :
    (results Try.f65 tmps).run Try.prog w = .ok (.tuple #[v8, v9]) w := by
  have hr : Try.f65.results = #[.cell 8 5, .cell 9 3] := rfl
  have h8' : tmps[8]?.getD undef = .pointer (some p8) := by simpa using h8
  have h9' : tmps[9]?.getD undef = .pointer (some p9) := by simpa using h9
  simp [results, hr, h8', h9', asAddr, go_sem, c8, c9]


/-- The reason, and the first wall that blocks. -/
def whyF (L : Lv) (f t k h : Int) : Int × Int :=
  if (rd_T99 L.su h).f2 ≤ 0 then (1, 0)
  else if (rd_T85 L.st f).f3 < mirrorsF (rd_T85 L.st f) (rd_T85 L.st t) (rd_T99 L.su h) then (2, 0)
  else if 0 < (ridgesL L f t).length then (3, (ridgesL L f t).headD 0)
  else if 0 < (cloudsL L f t k h).length then (4, (cloudsL L f t k h).headD 0)
  else (0, 0)
/-- What a land's numbers keep to. -/
structure Lv.Ok (L : Lv) : Prop where
  st6 : L.st.length ≤ 6
  ri6 : L.ri.length ≤ 6
  ca4 : L.ca.length ≤ 4
  su12 : L.su.length ≤ 12
  cl4 : ∀ k : Int, (rd_L9 L.ca k).length ≤ 4
  st : ∀ i : Int, 0 ≤ i → i < L.st.length → okSt (rd_T85 L.st i)
  ri : ∀ i : Nat, i < L.ri.length → okWl (rd_T86 L.ri i)
  cl : ∀ (k : Int) (i : Nat), i < (rd_L9 L.ca k).length → okWl (rd_T88 (rd_L9 L.ca k) i).f0
  su : ∀ i : Int, 0 ≤ i → i < L.su.length → okSun (rd_T99 L.su i)

theorem bw_then {w W W1 : World} (h : Below w.heap.size w W) (k : Below W.heap.size W W1) : Below w.heap.size w W1 := bt h k
theorem headD_get (l : List Int) (h : 0 < l.length) : l[0] = l.headD 0 := by
  cases l with
  | nil => simp at h
  | cons a b => rfl
/-- A range over a function of one int variable: the fourth form, the frame told by its two slots. -/
theorem rangeF {F : Fence} {n : Nat} {P : Program} {g : Operand} {p : Tmp} (s : Tmp) {assign body : Code} {Q : Exit → Act → World → Prop} {tmps : Array Value} {w : World}
    (hro : F.round = none) (h1 : 1 ≤ n) {gf : Nat} {lb : Array Value} (hg : Act.eval { tmps := tmps, defers := [] } g = .func (.func gf) #[] lb) (hFg : F.fn gf) (eg : ∀ args w, (callFunc gf args).run P w = .ok (.enter gf args) w)
    {Kp : World → World → Prop} {S Sp : List Int → Prop} {N : Nat} {w0 : World} (hseq : SeqStopsK F (n - 1) P gf lb (fun x : Int => #[.int .i64 x]) Kp S Sp N w0)
    (hKt : ∀ {A B C : World}, Kp A B → Kp B C → Kp A C) (hKb : ∀ (W : World) (l : Nat) (o o' : Obj), w.heap.size ≤ l → W.heap[l]? = some o → o.isCells = false → o.isWalk = false → Kp W (W.putObj l o')) (hb0 : Below w0.heap.size w0 w)
    (I : List Int → World → Prop) (Ix : Code → List Int → World → Prop) (hI : OwnFrom w.heap.size I) (hIx : ∀ c, OwnFrom w.heap.size (Ix c)) (h0 : I [] w)
    (hassign : ∀ (l : Nat) (x : Int) (W : World) (K : Act → World → Prop), K { tmps := (tmps.setIfInBounds p (.int .i64 x)).setIfInBounds s (.int .i64 x), defers := [] } W →
      assign.wpIn (F.inRound l) (n - 1 - 1) P (Exit.then K (fun _ _ _ => False)) { tmps := tmps.setIfInBounds p (.int .i64 x), defers := [] } W)
    (hbody : ∀ (l : Nat) (pre : List Int) (x : Int) (W : World), I pre W → pre.length < N → body.wpIn (F.inRound l) (n - 1 - 1) P (ownPostK Kp I Ix (pre ++ [x]) W) { tmps := (tmps.setIfInBounds p (.int .i64 x)).setIfInBounds s (.int .i64 x), defers := [] } W)
    (hdone : ∀ (D : Nat) (xs : List Int) (W : World), w.heap.size ≤ D → S xs → I xs W → W.heap[D]? = some (.deferred (some [])) → Q .normal { tmps := tmps, defers := [{ target := .collected D, args := #[] }] } W)
    (hstop : ∀ (D : Nat) (c : Code) (pre : List Int) (W : World), w.heap.size ≤ D → Sp pre → Ix c pre W → W.heap[D]? = some (.deferred (some [])) → c.wpIn F n P Q { tmps := tmps, defers := [{ target := .collected D, args := #[] }] } W) :
    (Code.rangeFunc g #[p] assign body).wpIn F n P Q { tmps := tmps, defers := [] } w :=
  wpIn_rangeFunc_ownF hro h1 (gf := gf) (lb := lb) hg hFg eg hseq (fun a b => hKt a b) hKb hb0 (fun _ => rfl) I Ix hI hIx h0
    (fun x => { tmps := (tmps.setIfInBounds p (.int .i64 x)).setIfInBounds s (.int .i64 x), defers := [] })
    (fun l x W K hK => by simpa using hassign l x W K hK) hbody hdone hstop
/-- All blocks but two stay. -/
structure Sm (p q : Nat) (V W : World) : Prop where
  os : W.os = V.os
  tape : W.tape = V.tape
  output : W.output = V.output
  size : V.heap.size ≤ W.heap.size
  block : ∀ i, i < V.heap.size → i ≠ p → i ≠ q → W.heap[i]? = V.heap[i]?
theorem Sm.refl (p q : Nat) (V : World) : Sm p q V V := ⟨rfl, rfl, rfl, Nat.le_refl _, fun _ _ _ _ => rfl⟩
theorem Sm.below {p q : Nat} {V W W1 : World} (h : Sm p q V W) (hb : Below W.heap.size W W1) : Sm p q V W1 :=
  ⟨hb.os.trans h.os, hb.tape.trans h.tape, hb.output.trans h.output, Nat.le_trans h.size hb.size, fun i hi h1 h2 => (hb.block i (Nat.lt_of_lt_of_le hi h.size)).trans (h.block i hi h1 h2)⟩
theorem Sm.set {p q : Nat} {V W : World} (h : Sm p q V W) {b i : Nat} (hb : b = p ∨ b = q) (v : Value) : Sm p q V (W.setCell ⟨b, i, none⟩ v) :=
  ⟨h.os, h.tape, h.output, by simpa [World.setCell] using h.size, fun k hk h1 h2 => (Below.heap_setCell W ⟨b, i, none⟩ v k (by rcases hb with rfl | rfl <;> assumption)).trans (h.block k hk h1 h2)⟩
theorem Sm.put {p q : Nat} {V W : World} (h : Sm p q V W) {D : Nat} (o : Obj) (hD : V.heap.size ≤ D) : Sm p q V (W.putObj D o) := by
  have hg := grownBy_putObj' W D o
  exact ⟨hg.os.trans h.os, hg.tape.trans h.tape, hg.output.trans h.output, Nat.le_trans h.size hg.size, fun i hi h1 h2 => (hg.block i (Nat.lt_of_lt_of_le hi h.size) (fun e => by injection e with e; omega)).trans (h.block i hi h1 h2)⟩
theorem Sm.grown {p q : Nat} {V W W1 : World} {row : Option Nat} (h : Sm p q V W) (hg : W.grownBy W1 row) (hr : ∀ r, row = some r → V.heap.size ≤ r) : Sm p q V W1 :=
  ⟨hg.os.trans h.os, hg.tape.trans h.tape, hg.output.trans h.output, Nat.le_trans h.size hg.size, fun i hi h1 h2 => (hg.block i (Nat.lt_of_lt_of_le hi h.size) (fun e => by have := hr i e.symm; omega)).trans (h.block i hi h1 h2)⟩
theorem Wk.imp {L : Lv} {g mb n : Nat} {N N' : Nat → Prop} {w : World} (h : Wk L g mb n N w) (hN : ∀ b, N b → N' b) : Wk L g mb n N' w := by
  obtain ⟨es, clock, h1, h2, h3, h4⟩ := h.memo.ex
  refine ⟨h.land, h.blk, ⟨es, clock, h1, h2, h3, fun x hx f t e => ?_⟩⟩
  obtain ⟨A, c, e1, e2, e3⟩ := h4 x hx f t e
  exact ⟨A, c, e1, e2, fun ad ha hl => hN _ (e3 ad ha hl)⟩
theorem C_lt {w : World} {A : Option Addr} {n : Nat} {xs : List Int} (h : Kd.C (Kd.int .i64) w A n xs) (hn : 0 < n) (ad : Addr) (e : A = some ad) : ad.block < w.heap.size := by
  obtain ⟨ad', e', hc⟩ := h.2.2 hn
  rw [e] at e'
  cases e'
  have hl : 0 < xs.length := by rw [h.1]; exact hn
  obtain ⟨c, h1, h2, h3⟩ := hc 0 _ (List.getElem?_eq_getElem hl)
  have h4 : c = [.int .i64 xs[0]] := h2
  have h5 := h3 0 (.int .i64 xs[0]) (by rw [h4]; rfl)
  have h6 := World.block_lt_of_cell? w _ h5
  exact h6
theorem Wk.lies {L : Lv} {g mb n : Nat} {N : Nat → Prop} {w : World} (h : Wk L g mb n N w) : Wk L g mb n (fun b => N b ∧ b < w.heap.size) w := by
  obtain ⟨es, clock, h1, h2, h3, h4⟩ := h.memo.ex
  refine ⟨h.land, h.blk, ⟨es, clock, h1, h2, h3, fun x hx f t e => ?_⟩⟩
  obtain ⟨A, c, e1, e2, e3⟩ := h4 x hx f t e
  exact ⟨A, c, e1, e2, fun ad ha hl => ⟨e3 ad ha hl, C_lt e2 hl ad ha⟩⟩
theorem add_blk (a : Addr) (n : Nat) : (a.add n).block = a.block := by unfold Addr.add; split <;> rfl
theorem C_sm {p q : Nat} {V W : World} (hS : Sm p q V W) {A : Option Addr} {n : Nat} {xs : List Int} (h : Kd.C (Kd.int .i64) V A n xs) (hA : ∀ ad, A = some ad → 0 < n → ad.block ≠ p ∧ ad.block ≠ q) : Kd.C (Kd.int .i64) W A n xs := by
  refine ⟨h.1, h.2.1, fun hn => ?_⟩
  obtain ⟨ad, e, hc⟩ := h.2.2 hn
  refine ⟨ad, e, fun j x hj => ?_⟩
  obtain ⟨c, h1, h2, h3⟩ := hc j x hj
  refine ⟨c, h1, h2, fun i u hu => ?_⟩
  have h5 := h3 i u hu
  have h6 := World.block_lt_of_cell? V _ h5
  obtain ⟨n1, n2⟩ := hA ad e hn
  rw [← h5]
  exact World.cell?_of_block (hS.block _ h6 (by rw [add_blk]; exact n1) (by rw [add_blk]; exact n2))
/-- What the reason leaves. -/
theorem Wk.final {L : Lv} {g mb n n' : Nat} {N N0 N1 : Nat → Prop} {w V W : World} {p q : Nat} (h0 : Wk L g mb n N0 w) (hV : Wk L g mb n' N V) (hg : w.grownBy V (some mb)) (hS : Sm p q V W) (hp : w.heap.size ≤ p) (hq : w.heap.size ≤ q) (hN : ∀ b, N b → (b ≠ p ∧ b ≠ q) ∧ N1 b) :
    Wk L g mb n' N1 W ∧ w.grownBy W (some mb) := by
  obtain ⟨es0, clock0, k1, _⟩ := h0.memo.ex
  have hm := blk_lt k1
  have hgW : w.grownBy W (some mb) := ⟨hS.os.trans hg.os, hS.tape.trans hg.tape, hS.output.trans hg.output, Nat.le_trans hg.size hS.size,
    fun i hi hne => (hS.block i (Nat.lt_of_lt_of_le hi hg.size) (by omega) (by omega)).trans (hg.block i hi hne)⟩
  obtain ⟨es, clock, h1, h2, h3, h4⟩ := hV.memo.ex
  refine ⟨⟨h0.land.cells fun a v ha => ?_, h0.blk_store hgW, ⟨es, clock, (hS.block mb (blk_lt h1) (by omega) (by omega)).trans h1, h2, h3, fun x hx f t e => ?_⟩⟩, hgW⟩
  · have hlt := World.block_lt_of_cell? w a ha
    have hne : a.block ≠ mb := by
      intro e
      unfold World.cell? at ha
      rw [e, k1] at ha
      exact absurd ha (by simp)
    rw [← ha]
    exact World.cell?_of_block (hgW.block _ hlt (fun e => hne (by injection e)))
  · obtain ⟨A, c, e1, e2, e3⟩ := h4 x hx f t e
    exact ⟨A, c, e1, C_sm hS e2 fun ad ha hl => (hN _ (e3 ad ha hl)).1, fun ad ha hl => (hN _ (e3 ad ha hl)).2⟩

set_option maxHeartbeats 2000000 in
set_option maxRecDepth 100000 in
theorem why_c (L : Lv) (g mb n : Nat) (f t k h : Int) (w : World) {N : Nat → Prop} (hN : ∀ b, w.heap.size ≤ b → N b) (hW : Wk L g mb n N w) (hL : L.Ok) (hn : n < 1000000) (hf0 : 0 ≤ f) (hf : f < L.st.length) (ht0 : 0 ≤ t) (ht : t < L.st.length) (hk0 : 0 ≤ k) (hk : k < L.ca.length) (hh0 : 0 ≤ h) (hh : h < L.su.length) :
    Calls Try.prog 65 #[.pointer (some ⟨g, 0, none⟩), .agg #[.int .i64 f, .int .i64 t], .int .i64 k, .int .i64 h] w fun e w' =>
      e = .returned (.tuple #[.int .u8 (whyF L f t k h).1, .int .i64 (whyF L f t k h).2]) ∧ Wk L g mb (n + 1) N w' ∧ w.grownBy w' (some mb) := by
  have AW := Aside0.mk hW
  have AL := Aside0.mk hL
  clear hW hL
  have AM := Aside0.mk fun W (hb : Below w.heap.size w W) => mirrors_c L g mb n f t h W (AW.out.below hb) hf0 hf ht0 ht hh0 hh (AL.out.st f hf0 hf) (AL.out.st t ht0 ht) (AL.out.su h hh0 hh)
  have AR := Aside0.mk fun W (hb : Below w.heap.size w W) (hs : w.heap.size + 3 ≤ W.heap.size) => ridges_c L g mb n f t W (N := fun b => N b ∧ (b < w.heap.size ∨ w.heap.size + 3 ≤ b)) (fun b hb => ⟨hN b (by omega), .inr (by omega)⟩) ((AW.out.lies.imp fun b h => ⟨h.1, .inl h.2⟩).below hb) hn hf0 hf ht0 ht AL.out.ri6 AL.out.st6 (AL.out.st f hf0 hf) (AL.out.st t ht0 ht) AL.out.ri
  obtain ⟨ads, es, s0, s1, s2⟩ := at_T99 AW.out.land.r3 h hh0 hh
  obtain ⟨ad0, e0, x0, x1, x2, x3⟩ := at_T85 AW.out.land.r0 f hf0 hf
  have g0 := (blk_cell AW.out.blk 0).trans rfl
  have g3 := (blk_cell AW.out.blk 3).trans rfl
  rw [e0] at g0
  rw [es] at g3
  have hl0 := AW.out.land.r0.2.1
  have hl3 := AW.out.land.r3.2.1
  have HX := Aside0.mk (And.intro g0 x3)
  obtain ⟨W0, hW0⟩ : ∃ W0, W0 = ((w.alloc (.cells #[.int .i64 f, .int .i64 t] 95)).alloc (.cells #[.int .u8 0] 5)).alloc (.cells #[.int .i64 0] 3) := ⟨_, rfl⟩
  have hB0 : Below w.heap.size w W0 := by rw [hW0]; exact below_alloc (below_alloc (b1 _ _) _) _
  have hsz : W0.heap.size = w.heap.size + 1 + 1 + 1 := by rw [hW0]; simp
  have hp : W0.heap[w.heap.size]? = some (.cells #[.int .i64 f, .int .i64 t] 95 (0, 0)) := by rw [hW0]; exact blk_alloc (blk_alloc (blk_new _ _) _) _
  have h8 : W0.heap[w.heap.size + 1]? = some (.cells #[.int .u8 0] 5 (0, 0)) := by
    rw [hW0]
    refine blk_alloc ?_ _
    have := blk_new (w.alloc (.cells #[.int .i64 f, .int .i64 t] 95)) (.cells #[.int .u8 0] 5)
    rwa [World.size_alloc] at this
  have h9 : W0.heap[w.heap.size + 1 + 1]? = some (.cells #[.int .i64 0] 3 (0, 0)) := by
    rw [hW0]
    have := blk_new ((w.alloc (.cells #[.int .i64 f, .int .i64 t] 95)).alloc (.cells #[.int .u8 0] 5)) (.cells #[.int .i64 0] 3)
    rwa [World.size_alloc, World.size_alloc] at this
  have HB0 := Aside0.mk (And.intro hB0 (And.intro hp (And.intro h8 h9)))
  have c8 := (blk_cell h8 0).trans rfl
  have c9 := (blk_cell h9 0).trans rfl
  have f8 := blk_frozen h8 0
  have f9 := blk_frozen h9 0
  replace g3 := cb hB0 g3
  replace s2 := cb hB0 s2
  clear hB0 hp h8 h9
  rw [hW0] at g3 s2 c8 c9 f8 f9
  have HW0 := Aside0.mk hW0
  clear hW0
  have HF : Aside0 (whyF L f t k h = if (rd_T99 L.su h).f2 ≤ 0 then (1, 0) else if (rd_T85 L.st f).f3 < mirrorsF (rd_T85 L.st f) (rd_T85 L.st t) (rd_T99 L.su h) then (2, 0)
    else if 0 < (ridgesL L f t).length then (3, (ridgesL L f t).headD 0) else if 0 < (cloudsL L f t k h).length then (4, (cloudsL L f t k h).headD 0) else (0, 0)) := ⟨rfl⟩
  clear s0 s1 x0 x1 x2 x3 e0 es g0
  refine (callsIn_wide (n := 3)).1 ?_
  refine callsIn_of_wp_marks Try.func65 rfl trivial ?_ rfl
  simp only [Try.ntmps65, List.size_toArray, List.length_cons, List.length_nil, Nat.reduceAdd, Nat.reduceSub, Array.replicate_succ, Array.replicate_zero, List.push_toArray, List.append_toArray, List.nil_append, List.cons_append]
  by_cases hup : (rd_T99 L.su h).f2 ≤ 0
  · gi_wp2
    refine ⟨.tuple #[.int .u8 1, .int .i64 0], res65 (p8 := ⟨w.heap.size + 1, 0, none⟩) (p9 := ⟨w.heap.size + 1 + 1, 0, none⟩) rfl rfl (cb (b1 _ _) (cnew (by simp) rfl)) (cnew (by simp) rfl), ?_, ?_⟩
    · rw [HF.out, if_pos hup]
    · exact ⟨((AW.out).below (below_alloc (below_alloc (b1 _ _) _) _)).mono (Nat.le_succ _), grown_of_below (below_alloc (below_alloc (b1 _ _) _) _) _⟩
  · replace HF : Aside0 (whyF L f t k h = if (rd_T85 L.st f).f3 < mirrorsF (rd_T85 L.st f) (rd_T85 L.st t) (rd_T99 L.su h) then (2, 0)
      else if 0 < (ridgesL L f t).length then (3, (ridgesL L f t).headD 0) else if 0 < (cloudsL L f t k h).length then (4, (cloudsL L f t k h).headD 0) else (0, 0)) := ⟨by rw [HF.out, if_neg hup]⟩
    gi_wp2
    rw [← HW0.out]
    have p0 := (blk_cell HB0.out.2.1 0).trans rfl
    have p1 := (blk_cell HB0.out.2.1 1).trans rfl
    have P0 := Aside0.mk p0
    have P1 := Aside0.mk p1
    have G0 := Aside0.mk (cb HB0.out.1 HX.out.1)
    have X3 := Aside0.mk (cb HB0.out.1 HX.out.2)
    clear g3 s2 c8 c9 f8 f9 hup p0 p1
    obtain ⟨m, hm⟩ : ∃ m, m = mirrorsF (rd_T85 L.st f) (rd_T85 L.st t) (rd_T99 L.su h) := ⟨_, rfl⟩
    rw [← hm] at AM HF
    clear hm
    refine start_in #[false, false, false, false, false, false, false, false, false, false, false, false, false, false, false, false] (by kernel_rfl) rfl rfl ?_
    refine with_tab_in why.tab3 why.bits3 (fun HT_ HW_ => ?_)
    have HBW := Aside0.mk (below_drew (Below.refl W0.heap.size W0))
    generalize W0.drew = W1 at *
    refine inv_at_in [0, 1, 2, 3, 4, 5, 6, 7, 8, 9, 10, 11, 12, 13, 14, 15] (fun a0_ b a w' => a = putSel a0_ b [(0, 24, .pointer (some ⟨g, 0, none⟩)), (1, 25, .agg #[.int .i64 f, .int .i64 t]), (2, 26, .int .i64 h), (3, 27, .int .i64 m), (4, 28, .pointer (some ⟨g, 0, none⟩)), (5, 29, .pointer (some ⟨g, 0, none⟩)), (6, 30, .pointer (some ⟨g, 0, none⟩)), (7, 31, .pointer (some ⟨g, 0, none⟩)), (8, 32, .slice (some ad0) L.st.length L.c0), (9, 33, .pointer (some ⟨w.heap.size, 0, none⟩)), (10, 34, .int .i64 f), (11, 35, .pointer (some (ad0.add (f.toNat * 4)))), (12, 36, .pointer (some ⟨(ad0.add (f.toNat * 4)).block, (ad0.add (f.toNat * 4)).off + 3, none⟩)), (13, 37, .int .i64 (rd_T85 L.st f).f3), (14, 38, .bool (decide ((rd_T85 L.st f).f3 < m))), (15, 23, .bool (decide ((rd_T85 L.st f).f3 < m)))] ∧ (Below W0.heap.size W0 w')) HT_.out HW_.out (by kernel_rfl) (by kernel_rfl) ?_ ?_ ?_
    · exact ⟨by simp only [putSel, Bool.false_eq_true, if_false], HBW.out⟩
    · skip
      clear HBW
      refine steps_cons_in ?_ ?_
      · rintro b a w' ⟨ha, Q_HBW⟩ hb_ hon hoff
        refine ⟨_, rfl, fun K hK => ?_⟩
        have e0 : a.tmps[0]? = some (.pointer (some ⟨g, 0, none⟩)) := by rw [ha]; exact (putSel_off rfl).trans rfl
        replace ha := Aside0.mk ha
        have HBW := Aside0.mk Q_HBW
        refine value_in (w1 := w') (v := .pointer (some ⟨g, 0, none⟩)) (by rfl) rfl ?_ ?_
        · go_simp
          (try simp only [i64_w])
          try rfl
        refine hK.out _ _ ⟨(by rw [ha.out]; exact putSel_upk 0 hb_ rfl rfl rfl), Q_HBW⟩
      refine steps_cons_in ?_ ?_
      · rintro b a w' ⟨ha, Q_HBW⟩ hb_ hon hoff
        refine ⟨_, rfl, fun K hK => ?_⟩
        have e5 : a.tmps[5]? = some (.pointer (some ⟨w.heap.size, 0, none⟩)) := by rw [ha]; exact (putSel_off rfl).trans rfl
        replace ha := Aside0.mk ha
        have HBW := Aside0.mk Q_HBW
        have k0_ := cb HBW.out P0.out
        have k1_ := cb HBW.out P1.out
        refine value_in (w1 := w') (v := .agg #[.int .i64 f, .int .i64 t]) (by rfl) rfl ?_ ?_
        · go_simp
          (try simp only [i64_w])
          try rfl
        refine hK.out _ _ ⟨(by rw [ha.out]; exact putSel_upk 1 hb_ rfl rfl rfl), Q_HBW⟩
      refine steps_cons_in ?_ ?_
      · rintro b a w' ⟨ha, Q_HBW⟩ hb_ hon hoff
        refine ⟨_, rfl, fun K hK => ?_⟩
        have e3 : a.tmps[3]? = some (.int .i64 h) := by rw [ha]; exact (putSel_off rfl).trans rfl
        replace ha := Aside0.mk ha
        have HBW := Aside0.mk Q_HBW
        refine value_in (w1 := w') (v := .int .i64 h) (by rfl) rfl ?_ ?_
        · go_simp
          (try simp only [i64_w])
          try rfl
        refine hK.out _ _ ⟨(by rw [ha.out]; exact putSel_upk 2 hb_ rfl rfl rfl), Q_HBW⟩
      refine steps_cons_in ?_ ?_
      · rintro b a w' ⟨ha, Q_HBW⟩ hb_ hon hoff
        refine ⟨_, rfl, fun K hK => ?_⟩
        have e24 : a.tmps[24]? = some (.pointer (some ⟨g, 0, none⟩)) := by rw [ha]; exact putSel_on (e := (0, 24, .pointer (some ⟨g, 0, none⟩))) 0 rfl rfl (hon 0 (by kernel_rfl)) rfl
        have e25 : a.tmps[25]? = some (.agg #[.int .i64 f, .int .i64 t]) := by rw [ha]; exact putSel_on (e := (1, 25, .agg #[.int .i64 f, .int .i64 t])) 1 rfl rfl (hon 1 (by kernel_rfl)) rfl
        have e26 : a.tmps[26]? = some (.int .i64 h) := by rw [ha]; exact putSel_on (e := (2, 26, .int .i64 h)) 2 rfl rfl (hon 2 (by kernel_rfl)) rfl
        replace ha := Aside0.mk ha
        have HBW := Aside0.mk Q_HBW
        refine call_in 50 #[.pointer (some ⟨g, 0, none⟩), .agg #[.int .i64 f, .int .i64 t], .int .i64 h] (by rfl) rfl (by go_simp) ?_
        refine (AM.out _ (bw_then HB0.out.1 HBW.out)).mono ?_
        rintro e w2 ⟨rfl, hbb⟩
        refine ⟨_, rfl, ?_⟩
        refine hK.out _ _ ⟨(by rw [ha.out]; exact putSel_upk 3 hb_ rfl rfl rfl), bt HBW.out hbb⟩
      refine steps_cons_in ?_ ?_
      · rintro b a w' ⟨ha, Q_HBW⟩ hb_ hon hoff
        refine ⟨_, rfl, fun K hK => ?_⟩
        have e0 : a.tmps[0]? = some (.pointer (some ⟨g, 0, none⟩)) := by rw [ha]; exact (putSel_off rfl).trans rfl
        replace ha := Aside0.mk ha
        have HBW := Aside0.mk Q_HBW
        refine value_in (w1 := w') (v := .pointer (some ⟨g, 0, none⟩)) (by rfl) rfl ?_ ?_
        · go_simp
          (try simp only [i64_w])
          try rfl
        refine hK.out _ _ ⟨(by rw [ha.out]; exact putSel_upk 4 hb_ rfl rfl rfl), Q_HBW⟩
      refine steps_cons_in ?_ ?_
      · rintro b a w' ⟨ha, Q_HBW⟩ hb_ hon hoff
        refine ⟨_, rfl, fun K hK => ?_⟩
        have e28 : a.tmps[28]? = some (.pointer (some ⟨g, 0, none⟩)) := by rw [ha]; exact putSel_on (e := (4, 28, .pointer (some ⟨g, 0, none⟩))) 4 rfl rfl (hon 4 (by kernel_rfl)) rfl
        replace ha := Aside0.mk ha
        have HBW := Aside0.mk Q_HBW
        refine value_in (w1 := w') (v := .pointer (some ⟨g, 0, none⟩)) (by rfl) rfl ?_ ?_
        · go_simp
          (try simp only [i64_w])
          try rfl
        refine hK.out _ _ ⟨(by rw [ha.out]; exact putSel_upk 5 hb_ rfl rfl rfl), Q_HBW⟩
      refine steps_cons_in ?_ ?_
      · rintro b a w' ⟨ha, Q_HBW⟩ hb_ hon hoff
        refine ⟨_, rfl, fun K hK => ?_⟩
        have e29 : a.tmps[29]? = some (.pointer (some ⟨g, 0, none⟩)) := by rw [ha]; exact putSel_on (e := (5, 29, .pointer (some ⟨g, 0, none⟩))) 5 rfl rfl (hon 5 (by kernel_rfl)) rfl
        replace ha := Aside0.mk ha
        have HBW := Aside0.mk Q_HBW
        refine value_in (w1 := w') (v := .pointer (some ⟨g, 0, none⟩)) (by rfl) rfl ?_ ?_
        · go_simp
          (try simp only [i64_w])
          try rfl
        refine hK.out _ _ ⟨(by rw [ha.out]; exact putSel_upk 6 hb_ rfl rfl rfl), Q_HBW⟩
      refine steps_cons_in ?_ ?_
      · rintro b a w' ⟨ha, Q_HBW⟩ hb_ hon hoff
        refine ⟨_, rfl, fun K hK => ?_⟩
        have e30 : a.tmps[30]? = some (.pointer (some ⟨g, 0, none⟩)) := by rw [ha]; exact putSel_on (e := (6, 30, .pointer (some ⟨g, 0, none⟩))) 6 rfl rfl (hon 6 (by kernel_rfl)) rfl
        replace ha := Aside0.mk ha
        have HBW := Aside0.mk Q_HBW
        refine value_in (w1 := w') (v := .pointer (some ⟨g, 0, none⟩)) (by rfl) rfl ?_ ?_
        · go_simp
          (try simp only [i64_w])
          try rfl
        refine hK.out _ _ ⟨(by rw [ha.out]; exact putSel_upk 7 hb_ rfl rfl rfl), Q_HBW⟩
      refine steps_cons_in ?_ ?_
      · rintro b a w' ⟨ha, Q_HBW⟩ hb_ hon hoff
        refine ⟨_, rfl, fun K hK => ?_⟩
        have e31 : a.tmps[31]? = some (.pointer (some ⟨g, 0, none⟩)) := by rw [ha]; exact putSel_on (e := (7, 31, .pointer (some ⟨g, 0, none⟩))) 7 rfl rfl (hon 7 (by kernel_rfl)) rfl
        replace ha := Aside0.mk ha
        have HBW := Aside0.mk Q_HBW
        have k0_ := cb HBW.out G0.out
        refine value_in (w1 := w') (v := .slice (some ad0) L.st.length L.c0) (by rfl) rfl ?_ ?_
        · go_simp
          (try simp only [i64_w])
          try rfl
        refine hK.out _ _ ⟨(by rw [ha.out]; exact putSel_upk 8 hb_ rfl rfl rfl), Q_HBW⟩
      refine steps_cons_in ?_ ?_
      · rintro b a w' ⟨ha, Q_HBW⟩ hb_ hon hoff
        refine ⟨_, rfl, fun K hK => ?_⟩
        have e5 : a.tmps[5]? = some (.pointer (some ⟨w.heap.size, 0, none⟩)) := by rw [ha]; exact (putSel_off rfl).trans rfl
        replace ha := Aside0.mk ha
        have HBW := Aside0.mk Q_HBW
        refine value_in (w1 := w') (v := .pointer (some ⟨w.heap.size, 0, none⟩)) (by rfl) rfl ?_ ?_
        · go_simp
          (try simp only [i64_w])
          try rfl
        refine hK.out _ _ ⟨(by rw [ha.out]; exact putSel_upk 9 hb_ rfl rfl rfl), Q_HBW⟩
      refine steps_cons_in ?_ ?_
      · rintro b a w' ⟨ha, Q_HBW⟩ hb_ hon hoff
        refine ⟨_, rfl, fun K hK => ?_⟩
        have e33 : a.tmps[33]? = some (.pointer (some ⟨w.heap.size, 0, none⟩)) := by rw [ha]; exact putSel_on (e := (9, 33, .pointer (some ⟨w.heap.size, 0, none⟩))) 9 rfl rfl (hon 9 (by kernel_rfl)) rfl
        replace ha := Aside0.mk ha
        have HBW := Aside0.mk Q_HBW
        have k0_ := cb HBW.out P0.out
        refine value_in (w1 := w') (v := .int .i64 f) (by rfl) rfl ?_ ?_
        · go_simp
          (try simp only [i64_w])
          try rfl
        refine hK.out _ _ ⟨(by rw [ha.out]; exact putSel_upk 10 hb_ rfl rfl rfl), Q_HBW⟩
      refine steps_cons_in ?_ ?_
      · rintro b a w' ⟨ha, Q_HBW⟩ hb_ hon hoff
        refine ⟨_, rfl, fun K hK => ?_⟩
        have e32 : a.tmps[32]? = some (.slice (some ad0) L.st.length L.c0) := by rw [ha]; exact putSel_on (e := (8, 32, .slice (some ad0) L.st.length L.c0)) 8 rfl rfl (hon 8 (by kernel_rfl)) rfl
        have e34 : a.tmps[34]? = some (.int .i64 f) := by rw [ha]; exact putSel_on (e := (10, 34, .int .i64 f)) 10 rfl rfl (hon 10 (by kernel_rfl)) rfl
        replace ha := Aside0.mk ha
        have HBW := Aside0.mk Q_HBW
        refine value_in (w1 := w') (v := .pointer (some (ad0.add (f.toNat * 4)))) (by rfl) rfl ?_ ?_
        · go_simp
          (try simp only [i64_w])
          try rfl
        refine hK.out _ _ ⟨(by rw [ha.out]; exact putSel_upk 11 hb_ rfl rfl rfl), Q_HBW⟩
      refine steps_cons_in ?_ ?_
      · rintro b a w' ⟨ha, Q_HBW⟩ hb_ hon hoff
        refine ⟨_, rfl, fun K hK => ?_⟩
        have e35 : a.tmps[35]? = some (.pointer (some (ad0.add (f.toNat * 4)))) := by rw [ha]; exact putSel_on (e := (11, 35, .pointer (some (ad0.add (f.toNat * 4))))) 11 rfl rfl (hon 11 (by kernel_rfl)) rfl
        replace ha := Aside0.mk ha
        have HBW := Aside0.mk Q_HBW
        refine value_in (w1 := w') (v := .pointer (some ⟨(ad0.add (f.toNat * 4)).block, (ad0.add (f.toNat * 4)).off + 3, none⟩)) (by rfl) rfl ?_ ?_
        · go_simp
          (try simp only [i64_w])
          try rfl
        refine hK.out _ _ ⟨(by rw [ha.out]; exact putSel_upk 12 hb_ rfl rfl rfl), Q_HBW⟩
      refine steps_cons_in ?_ ?_
      · rintro b a w' ⟨ha, Q_HBW⟩ hb_ hon hoff
        refine ⟨_, rfl, fun K hK => ?_⟩
        have e36 : a.tmps[36]? = some (.pointer (some ⟨(ad0.add (f.toNat * 4)).block, (ad0.add (f.toNat * 4)).off + 3, none⟩)) := by rw [ha]; exact putSel_on (e := (12, 36, .pointer (some ⟨(ad0.add (f.toNat * 4)).block, (ad0.add (f.toNat * 4)).off + 3, none⟩))) 12 rfl rfl (hon 12 (by kernel_rfl)) rfl
        replace ha := Aside0.mk ha
        have HBW := Aside0.mk Q_HBW
        have k0_ := cb HBW.out X3.out
        refine value_in (w1 := w') (v := .int .i64 (rd_T85 L.st f).f3) (by rfl) rfl ?_ ?_
        · go_simp
          (try simp only [i64_w])
          try rfl
        refine hK.out _ _ ⟨(by rw [ha.out]; exact putSel_upk 13 hb_ rfl rfl rfl), Q_HBW⟩
      refine steps_cons_in ?_ ?_
      · rintro b a w' ⟨ha, Q_HBW⟩ hb_ hon hoff
        refine ⟨_, rfl, fun K hK => ?_⟩
        have e27 : a.tmps[27]? = some (.int .i64 m) := by rw [ha]; exact putSel_on (e := (3, 27, .int .i64 m)) 3 rfl rfl (hon 3 (by kernel_rfl)) rfl
        have e37 : a.tmps[37]? = some (.int .i64 (rd_T85 L.st f).f3) := by rw [ha]; exact putSel_on (e := (13, 37, .int .i64 (rd_T85 L.st f).f3)) 13 rfl rfl (hon 13 (by kernel_rfl)) rfl
        replace ha := Aside0.mk ha
        have HBW := Aside0.mk Q_HBW
        refine value_in (w1 := w') (v := .bool (decide ((rd_T85 L.st f).f3 < m))) (by rfl) rfl ?_ ?_
        · go_simp
          (try simp only [i64_w])
          try rfl
        refine hK.out _ _ ⟨(by rw [ha.out]; exact putSel_upk 14 hb_ rfl rfl rfl), Q_HBW⟩
      refine steps_cons_in ?_ ?_
      · rintro b a w' ⟨ha, Q_HBW⟩ hb_ hon hoff
        refine ⟨_, rfl, fun K hK => ?_⟩
        have e38 : a.tmps[38]? = some (.bool (decide ((rd_T85 L.st f).f3 < m))) := by rw [ha]; exact putSel_on (e := (14, 38, .bool (decide ((rd_T85 L.st f).f3 < m)))) 14 rfl rfl (hon 14 (by kernel_rfl)) rfl
        replace ha := Aside0.mk ha
        have HBW := Aside0.mk Q_HBW
        refine value_in (w1 := w') (v := .bool (decide ((rd_T85 L.st f).f3 < m))) (by rfl) rfl ?_ ?_
        · go_simp
          (try simp only [i64_w])
          try rfl
        refine hK.out _ _ ⟨(by rw [ha.out]; exact putSel_upk 15 hb_ rfl rfl rfl), Q_HBW⟩
      exact steps_nil_in
    · rintro b a w' hall ⟨ha, Q_HBW⟩
      clear HBW
      have hb0_ := hall 0 (by kernel_rfl)
      have hb1_ := hall 1 (by kernel_rfl)
      have hb2_ := hall 2 (by kernel_rfl)
      have hb3_ := hall 3 (by kernel_rfl)
      have hb4_ := hall 4 (by kernel_rfl)
      have hb5_ := hall 5 (by kernel_rfl)
      have hb6_ := hall 6 (by kernel_rfl)
      have hb7_ := hall 7 (by kernel_rfl)
      have hb8_ := hall 8 (by kernel_rfl)
      have hb9_ := hall 9 (by kernel_rfl)
      have hb10_ := hall 10 (by kernel_rfl)
      have hb11_ := hall 11 (by kernel_rfl)
      have hb12_ := hall 12 (by kernel_rfl)
      have hb13_ := hall 13 (by kernel_rfl)
      have hb14_ := hall 14 (by kernel_rfl)
      have hb15_ := hall 15 (by kernel_rfl)
      subst ha
      simp only [putSel, hb0_, hb1_, hb2_, hb3_, hb4_, hb5_, hb6_, hb7_, hb8_, hb9_, hb10_, hb11_, hb12_, hb13_, hb14_, hb15_, if_true, Act.put, List.setIfInBounds_toArray, List.set_cons_zero, List.set_cons_succ]
      have HBW := Aside0.mk Q_HBW
      clear Q_HBW
      clear hall hb0_ hb1_ hb2_ hb3_ hb4_ hb5_ hb6_ hb7_ hb8_ hb9_ hb10_ hb11_ hb12_ hb13_ hb14_ hb15_
      have HV := Aside0.mk (bw_then HB0.out.1 HBW.out)
      have B8 := Aside0.mk (blk_below HB0.out.2.2.1 HBW.out)
      have B9 := Aside0.mk (blk_below HB0.out.2.2.2 HBW.out)
      have BP := Aside0.mk (blk_below HB0.out.2.1 HBW.out)
      have hs3 : w.heap.size + 3 ≤ w'.heap.size := by have := HBW.out.size; omega
      clear P0 P1 G0 X3
      have c8 := (blk_cell B8.out 0).trans rfl
      have c9 := (blk_cell B9.out 0).trans rfl
      have f8 := blk_frozen B8.out 0
      have f9 := blk_frozen B9.out 0
      by_cases hmm : (rd_T85 L.st f).f3 < m
      · have c9' : (w'.setCell ⟨w.heap.size + 1, 0, none⟩ (.int .u8 2)).cell? ⟨w.heap.size + 1 + 1, 0, none⟩ = some (.int .i64 0) := sc_blk (by omega) c9
        gi_wp2
        refine ⟨.tuple #[.int .u8 2, .int .i64 0], res65 (p8 := ⟨w.heap.size + 1, 0, none⟩) (p9 := ⟨w.heap.size + 1 + 1, 0, none⟩) rfl rfl (sc_blk (by omega) (sc_same ⟨_, c8⟩)) (sc_same (sc_ex ⟨_, c9⟩)), ?_, ?_⟩
        · rw [HF.out, if_pos hmm]
        · have hW1 := (AW.out.lies.below HV.out).mono (Nat.le_succ n)
          exact AW.out.final hW1 (grown_of_below HV.out _) (((Sm.refl _ _ w').set (.inl rfl) _).set (.inr rfl) _) (by omega) (by omega) (fun b hb => ⟨by have := hb.2; omega, hb.1⟩)
      · replace HF : Aside0 (whyF L f t k h = if 0 < (ridgesL L f t).length then (3, (ridgesL L f t).headD 0) else if 0 < (cloudsL L f t k h).length then (4, (cloudsL L f t k h).headD 0) else (0, 0)) := ⟨by rw [HF.out, if_neg hmm]⟩
        have d0 := (blk_cell BP.out 0).trans rfl
        have d1 := (blk_cell BP.out 1).trans rfl
        clear c8 c9 f8 f9
        gi_wp2
        refine ⟨trivial, ?_⟩
        refine (callsIn_wide.2 (AR.out _ HV.out hs3)).mono ?_
        rintro e V3 ⟨A, c, rfl, hC, hA, hWV, hgV⟩
        have hn8 : some (w.heap.size + 1) ≠ some mb := fun e => by
          obtain ⟨es, clock, k1, _⟩ := AW.out.memo.ex
          have := blk_lt k1
          injection e with e
          omega
        have hn9 : some (w.heap.size + 1 + 1) ≠ some mb := fun e => by
          obtain ⟨es, clock, k1, _⟩ := AW.out.memo.ex
          have := blk_lt k1
          injection e with e
          omega
        have hnp : some (w.heap.size) ≠ some mb := fun e => by
          obtain ⟨es, clock, k1, _⟩ := AW.out.memo.ex
          have := blk_lt k1
          injection e with e
          omega
        have hgw : w.grownBy V3 (some mb) := (grown_of_below HV.out _).trans hgV
        replace B8 := Aside0.mk (blk_grown B8.out hgV hn8)
        replace B9 := Aside0.mk (blk_grown B9.out hgV hn9)
        replace BP := Aside0.mk (blk_grown BP.out hgV hnp)
        have HWV := Aside0.mk hWV
        have HG := Aside0.mk (And.intro hgw (And.intro hC hA))
        have hs4 : w.heap.size + 3 ≤ V3.heap.size := by have := hgV.size; omega
        clear hWV hgV hgw hC hA d0 d1 hs3 hn8 hn9 hnp HV HBW
        by_cases hrl : 0 < (ridgesL L f t).length
        · have hcl := HG.out.2.1
          obtain ⟨ar, ea, hrc⟩ := hcl.2.2 hrl
          subst ea
          have RC : Aside0 (∀ W, Sm (w.heap.size + 1) (w.heap.size + 1 + 1) V3 W → W.cell? ar = some (.int .i64 ((ridgesL L f t).headD 0))) := ⟨fun W hS => by
            obtain ⟨cc, h1, h2, h3⟩ := hrc 0 _ (List.getElem?_eq_getElem hrl)
            have h4 : cc = [.int .i64 (ridgesL L f t)[0]] := h2
            have h5 := h3 0 (.int .i64 (ridgesL L f t)[0]) (by rw [h4]; rfl)
            have h7 : V3.cell? ar = some (.int .i64 (ridgesL L f t)[0]) := h5
            have h6 := World.block_lt_of_cell? V3 _ h7
            have hN' := (HG.out.2.2 ar rfl hrl).2
            have e1 : (ridgesL L f t)[0] = (ridgesL L f t).headD 0 := by
              exact headD_get _ hrl
            rw [← e1, ← h7]
            exact World.cell?_of_block (hS.block _ h6 (by omega) (by omega))⟩
          clear hcl hrc
          gi_wp2
          refine start_in #[false, false, false, false, false] (by kernel_rfl) rfl rfl ?_
          refine with_tab_in why.tab7 why.bits7 (fun HT_ HW_ => ?_)
          have SM := Aside0.mk ((Sm.refl (w.heap.size + 1) (w.heap.size + 1 + 1) V3).below (below_drew (Below.refl V3.heap.size V3)))
          have A8 := Aside0.mk (blk_drew B8.out)
          have A9 := Aside0.mk (blk_drew B9.out)
          generalize V3.drew = W1 at *
          refine inv_at_in [0, 1, 2, 3, 4] (fun a0_ b a w' => a = putSel a0_ b [(0, 45, .slice (some ar) (ridgesL L f t).length c), (1, 46, .pointer (some ar)), (2, 47, .int .i64 ((ridgesL L f t).headD 0))] ∧ (Sm (w.heap.size + 1) (w.heap.size + 1 + 1) V3 w') ∧ (b 3 = false → w'.heap[w.heap.size + 1]? = some (.cells #[.int .u8 0] 5 (0, 0))) ∧ (b 3 = true → w'.heap[w.heap.size + 1]? = some (.cells #[.int .u8 3] 5 (0, 0))) ∧ (b 4 = false → w'.heap[w.heap.size + 1 + 1]? = some (.cells #[.int .i64 0] 3 (0, 0))) ∧ (b 4 = true → w'.heap[w.heap.size + 1 + 1]? = some (.cells #[.int .i64 ((ridgesL L f t).headD 0)] 3 (0, 0)))) HT_.out HW_.out (by kernel_rfl) (by kernel_rfl) ?_ ?_ ?_
          · exact ⟨by simp only [putSel, Bool.false_eq_true, if_false], SM.out, fun _ => A8.out, fun h_ => absurd h_ (by decide), fun _ => A9.out, fun h_ => absurd h_ (by decide)⟩
          · skip
            clear A8 A9 SM
            refine steps_cons_in ?_ ?_
            · rintro b a w' ⟨ha, Q_SM, Q_A8, Q_C8, Q_A9, Q_C9⟩ hb_ hon hoff
              refine ⟨_, rfl, fun K hK => ?_⟩
              have e10 : a.tmps[10]? = some (.slice (some ar) (ridgesL L f t).length c) := by rw [ha]; exact (putSel_off rfl).trans rfl
              replace ha := Aside0.mk ha
              have SM := Aside0.mk Q_SM
              have A9 := Aside0.mk (Q_A9 (hoff 4 (by kernel_rfl)))
              refine value_in (w1 := w') (v := .slice (some ar) (ridgesL L f t).length c) (by rfl) rfl ?_ ?_
              · go_simp
                (try simp only [i64_w])
                try rfl
              refine hK.out _ _ ⟨(by rw [ha.out]; exact putSel_upk 0 hb_ rfl rfl rfl), Q_SM, Q_A8, Q_C8, Q_A9, fun h0_ => absurd ((hoff 4 (by kernel_rfl)).symm.trans h0_) (by decide)⟩
            refine steps_cons_in ?_ ?_
            · rintro b a w' ⟨ha, Q_SM, Q_A8, Q_C8, Q_A9, Q_C9⟩ hb_ hon hoff
              refine ⟨_, rfl, fun K hK => ?_⟩
              have e45 : a.tmps[45]? = some (.slice (some ar) (ridgesL L f t).length c) := by rw [ha]; exact putSel_on (e := (0, 45, .slice (some ar) (ridgesL L f t).length c)) 0 rfl rfl (hon 0 (by kernel_rfl)) rfl
              replace ha := Aside0.mk ha
              have SM := Aside0.mk Q_SM
              have A9 := Aside0.mk (Q_A9 (hoff 4 (by kernel_rfl)))
              refine value_in (w1 := w') (v := .pointer (some ar)) (by rfl) rfl ?_ ?_
              · go_simp
                (try simp only [i64_w])
                try rfl
              refine hK.out _ _ ⟨(by rw [ha.out]; exact putSel_upk 1 hb_ rfl rfl rfl), Q_SM, Q_A8, Q_C8, Q_A9, fun h0_ => absurd ((hoff 4 (by kernel_rfl)).symm.trans h0_) (by decide)⟩
            refine steps_cons_in ?_ ?_
            · rintro b a w' ⟨ha, Q_SM, Q_A8, Q_C8, Q_A9, Q_C9⟩ hb_ hon hoff
              refine ⟨_, rfl, fun K hK => ?_⟩
              have e46 : a.tmps[46]? = some (.pointer (some ar)) := by rw [ha]; exact putSel_on (e := (1, 46, .pointer (some ar))) 1 rfl rfl (hon 1 (by kernel_rfl)) rfl
              replace ha := Aside0.mk ha
              have SM := Aside0.mk Q_SM
              have A9 := Aside0.mk (Q_A9 (hoff 4 (by kernel_rfl)))
              have k_ := RC.out _ SM.out
              refine value_in (w1 := w') (v := .int .i64 ((ridgesL L f t).headD 0)) (by rfl) rfl ?_ ?_
              · go_simp
                (try simp only [i64_w])
                try rfl
              refine hK.out _ _ ⟨(by rw [ha.out]; exact putSel_upk 2 hb_ rfl rfl rfl), Q_SM, Q_A8, Q_C8, Q_A9, fun h0_ => absurd ((hoff 4 (by kernel_rfl)).symm.trans h0_) (by decide)⟩
            refine steps_cons_in ?_ ?_
            · rintro b a w' ⟨ha, Q_SM, Q_A8, Q_C8, Q_A9, Q_C9⟩ hb_ hon hoff
              refine ⟨_, rfl, fun K hK => ?_⟩
              have e8 : a.tmps[8]? = some (.pointer (some ⟨w.heap.size + 1, 0, none⟩)) := by rw [ha]; exact (putSel_off rfl).trans rfl
              replace ha := Aside0.mk ha
              have SM := Aside0.mk Q_SM
              have A8 := Aside0.mk (Q_A8 hb_)
              have A9 := Aside0.mk (Q_A9 (hoff 4 (by kernel_rfl)))
              have q1 := (blk_cell A8.out 0).trans rfl
              have q2 := blk_frozen A8.out 0
              refine skip_in (w1 := w'.setCell ⟨w.heap.size + 1, 0, none⟩ (.int .u8 3)) (by rfl) rfl (by go_simp) ?_
              refine hK.out _ _ ⟨(by rw [ha.out]; exact putSel_none (v := undef) rfl), SM.out.set (.inl rfl) _, fun h0_ => absurd ((up_self b 3).symm.trans h0_) (by decide), fun _ => blk_set A8.out 0 _, fun _ => blk_far A9.out (by simp) _, fun h0_ => absurd ((hoff 4 (by kernel_rfl)).symm.trans h0_) (by decide)⟩
            refine steps_cons_in ?_ ?_
            · rintro b a w' ⟨ha, Q_SM, Q_A8, Q_C8, Q_A9, Q_C9⟩ hb_ hon hoff
              refine ⟨_, rfl, fun K hK => ?_⟩
              have e9 : a.tmps[9]? = some (.pointer (some ⟨w.heap.size + 1 + 1, 0, none⟩)) := by rw [ha]; exact (putSel_off rfl).trans rfl
              have e47 : a.tmps[47]? = some (.int .i64 ((ridgesL L f t).headD 0)) := by rw [ha]; exact putSel_on (e := (2, 47, .int .i64 ((ridgesL L f t).headD 0))) 2 rfl rfl (hon 2 (by kernel_rfl)) rfl
              replace ha := Aside0.mk ha
              have SM := Aside0.mk Q_SM
              have C8 := Aside0.mk (Q_C8 (hon 3 (by kernel_rfl)))
              have A9 := Aside0.mk (Q_A9 hb_)
              have q1 := (blk_cell A9.out 0).trans rfl
              have q2 := blk_frozen A9.out 0
              refine skip_in (w1 := w'.setCell ⟨w.heap.size + 1 + 1, 0, none⟩ (.int .i64 ((ridgesL L f t).headD 0))) (by rfl) rfl (by go_simp) ?_
              refine hK.out _ _ ⟨(by rw [ha.out]; exact putSel_none (v := undef) rfl), SM.out.set (.inr rfl) _, fun h0_ => absurd ((hon 3 (by kernel_rfl)).symm.trans h0_) (by decide), fun _ => blk_far C8.out (by simp) _, fun h0_ => absurd ((up_self b 4).symm.trans h0_) (by decide), fun _ => blk_set A9.out 0 _⟩
            exact steps_nil_in
          · rintro b a w' hall ⟨ha, Q_SM, Q_A8, Q_C8, Q_A9, Q_C9⟩
            clear A8 A9 SM
            have hb0_ := hall 0 (by kernel_rfl)
            have hb1_ := hall 1 (by kernel_rfl)
            have hb2_ := hall 2 (by kernel_rfl)
            have hb3_ := hall 3 (by kernel_rfl)
            have hb4_ := hall 4 (by kernel_rfl)
            subst ha
            simp only [putSel, hb0_, hb1_, hb2_, hb3_, hb4_, if_true, Act.put, List.setIfInBounds_toArray, List.set_cons_zero, List.set_cons_succ]
            have SM := Aside0.mk Q_SM
            clear Q_SM
            clear Q_A8
            have C8 := Aside0.mk (Q_C8 hb3_)
            clear Q_C8
            clear Q_A9
            have C9 := Aside0.mk (Q_C9 hb4_)
            clear Q_C9
            clear hall hb0_ hb1_ hb2_ hb3_ hb4_
            gi_wp2
            have hW1 := HWV.out
            refine ⟨.tuple #[.int .u8 3, .int .i64 ((ridgesL L f t).headD 0)], res65 (p8 := ⟨w.heap.size + 1, 0, none⟩) (p9 := ⟨w.heap.size + 1 + 1, 0, none⟩) rfl rfl ((blk_cell C8.out 0).trans rfl) ((blk_cell C9.out 0).trans rfl), ?_, ?_⟩
            · rw [HF.out, if_pos hrl]
            · exact AW.out.final hW1 HG.out.1 SM.out (by omega) (by omega) (fun b hb => ⟨by have := hb.2; omega, hb.1⟩)
        · replace HF : Aside0 (whyF L f t k h = if 0 < (cloudsL L f t k h).length then (4, (cloudsL L f t k h).headD 0) else (0, 0)) := ⟨by rw [HF.out, if_neg hrl]⟩
          have d0 := (blk_cell BP.out 0).trans rfl
          have d1 := (blk_cell BP.out 1).trans rfl
          gi_wp2
          refine ⟨trivial, ?_⟩
          refine (callsIn_wide.2 (clouds_c g f t k h _)).mono ?_
          rintro e V4 ⟨rfl, hB4, q1, q2, q3, q4, q5⟩
          have hst := clouds_stops 1 L g mb (n + 1) f t k h V3.heap.size (V3.heap.size + 2) (V3.heap.size + 3) (V3.heap.size + 1) V4 (HWV.out.below hB4) q1 q2 q3 q4 q5 hf0 hf ht0 ht hk0 hk (AL.out.st f hf0 hf) (AL.out.st t ht0 ht) (AL.out.cl k) (AL.out.cl4 k)
          have HST := Aside0.mk hst
          have HB4 := Aside0.mk hB4
          clear hst hB4 q1 q2 q3 q4 q5 d0 d1 hrl
          gi_wp2
          have hB8 := blk_below B8.out HB4.out
          have hB9 := blk_below B9.out HB4.out
          have hz4 := HB4.out.size
          refine rangeF 11 rfl (by decide) (gf := 94) (lb := #[.pointer (some ⟨V3.heap.size, 0, none⟩), .pointer (some ⟨V3.heap.size + 2, 0, none⟩), .pointer (some ⟨V3.heap.size + 3, 0, none⟩), .pointer (some ⟨V3.heap.size + 1, 0, none⟩)]) rfl trivial (enters_of Try.func94 (by kernel_rfl) rfl)
            HST.out belowK_t (belowK_b (Nat.le_refl _)) (Below.refl _ _)
            (fun pre W => pre = [] ∧ Sm (w.heap.size + 1) (w.heap.size + 1 + 1) V4 W ∧ W.heap[w.heap.size + 1]? = some (.cells #[.int .u8 0] 5 (0, 0)) ∧ W.heap[w.heap.size + 1 + 1]? = some (.cells #[.int .i64 0] 3 (0, 0)))
            (fun cd pre W => cd = .ret ∧ ∃ x, pre = [x] ∧ Sm (w.heap.size + 1) (w.heap.size + 1 + 1) V4 W ∧ W.heap[w.heap.size + 1]? = some (.cells #[.int .u8 4] 5 (0, 0)) ∧ W.heap[w.heap.size + 1 + 1]? = some (.cells #[.int .i64 x] 3 (0, 0)))
            ?hI ?hIx ⟨rfl, Sm.refl _ _ _, hB8, hB9⟩ ?assign ?body ?done ?stop
          case hI =>
            rintro s W W' row ⟨hs, hS, h8, h9⟩ hg hr
            exact ⟨hs, hS.grown hg (fun r e => (hr r e).1), blk_grown h8 hg (fun e => by have := (hr _ e.symm).1; omega), blk_grown h9 hg (fun e => by have := (hr _ e.symm).1; omega)⟩
          case hIx =>
            rintro cd s W W' row ⟨hc, x, hs, hS, h8, h9⟩ hg hr
            exact ⟨hc, x, hs, hS.grown hg (fun r e => (hr r e).1), blk_grown h8 hg (fun e => by have := (hr _ e.symm).1; omega), blk_grown h9 hg (fun e => by have := (hr _ e.symm).1; omega)⟩
          case assign =>
            intro l x W K hK
            simp only [List.setIfInBounds_toArray, List.set_cons_succ, List.set_cons_zero] at hK ⊢
            gi_wp2
            exact hK
          case body =>
            rintro l pre x W ⟨rfl, hS, h8, h9⟩ _
            simp only [List.setIfInBounds_toArray, List.set_cons_succ, List.set_cons_zero]
            have c8 := (blk_cell h8 0).trans rfl
            have c9 := (blk_cell h9 0).trans rfl
            have f8 := blk_frozen h8 0
            have f9 := blk_frozen h9 0
            have c9' : (W.setCell ⟨w.heap.size + 1, 0, none⟩ (.int .u8 4)).cell? ⟨w.heap.size + 1 + 1, 0, none⟩ = some (.int .i64 0) := sc_blk (by omega) c9
            gi_wp2
            exact ⟨(KeepsOthers.setCell _ _ _).trans (KeepsOthers.setCell _ _ _), rfl, x, rfl, (hS.set (.inl rfl) _).set (.inr rfl) _, blk_far (blk_set h8 0 _) (by simp) _, blk_set (blk_far h9 (by simp) _) 0 _⟩
          case done =>
            rintro D xs W hD hxs ⟨rfl, hS, h8, h9⟩ hK
            have c8 := (blk_cell h8 0).trans rfl
            have c9 := (blk_cell h9 0).trans rfl
            have f8 := blk_frozen h8 0
            have f9 := blk_frozen h9 0
            have c9' : (W.setCell ⟨w.heap.size + 1, 0, none⟩ (.int .u8 0)).cell? ⟨w.heap.size + 1 + 1, 0, none⟩ = some (.int .i64 0) := sc_blk (by omega) c9
            gi_wp2
            have hK' := ((KeepsOthers.setCell W ⟨w.heap.size + 1, 0, none⟩ (.int .u8 0)).trans (KeepsOthers.setCell _ ⟨w.heap.size + 1 + 1, 0, none⟩ (.int .i64 0))).same D _ hK rfl
            have hg := grownBy_putObj' ((W.setCell ⟨w.heap.size + 1, 0, none⟩ (.int .u8 0)).setCell ⟨w.heap.size + 1 + 1, 0, none⟩ (.int .i64 0)) D (.deferred none)
            have k8 := blk_grown (blk_far (blk_set h8 0 (.int .u8 0)) (p := ⟨w.heap.size + 1 + 1, 0, none⟩) (by simp) (.int .i64 0)) hg (fun e => by injection e with e; omega)
            have k9 := blk_grown (blk_set (blk_far h9 (p := ⟨w.heap.size + 1, 0, none⟩) (by simp) (.int .u8 0)) 0 (.int .i64 0)) hg (fun e => by injection e with e; omega)
            refine ⟨by simp, .inl ⟨_, _, rfl, run_takeDeferred hK', ?_⟩⟩
            refine ⟨.tuple #[.int .u8 0, .int .i64 0], res65 (p8 := ⟨w.heap.size + 1, 0, none⟩) (p9 := ⟨w.heap.size + 1 + 1, 0, none⟩) rfl rfl ((blk_cell k8 0).trans rfl) ((blk_cell k9 0).trans rfl), ?_, ?_⟩
            · rw [HF.out, ← hxs]; rfl
            · exact AW.out.final (HWV.out.below HB4.out) (HG.out.1.trans (grown_of_below HB4.out _)) (((hS.set (.inl rfl) _).set (.inr rfl) _).put _ hD) (by omega) (by omega) (fun b hb => ⟨by have := hb.2; omega, hb.1⟩)
          case stop =>
            rintro D cd pre W hD hpre ⟨rfl, x, rfl, hS, h8, h9⟩ hK
            gi_wp2
            have hg := grownBy_putObj' W D (.deferred none)
            have k8 := blk_grown h8 hg (fun e => by injection e with e; omega)
            have k9 := blk_grown h9 hg (fun e => by injection e with e; omega)
            refine ⟨by simp, .inl ⟨_, _, rfl, run_takeDeferred hK, ?_⟩⟩
            refine ⟨.tuple #[.int .u8 4, .int .i64 x], res65 (p8 := ⟨w.heap.size + 1, 0, none⟩) (p9 := ⟨w.heap.size + 1 + 1, 0, none⟩) rfl rfl ((blk_cell k8 0).trans rfl) ((blk_cell k9 0).trans rfl), ?_, ?_⟩
            · obtain ⟨r, hr⟩ := hpre
              rw [HF.out, ← hr]; simp
            · exact AW.out.final (HWV.out.below HB4.out) (HG.out.1.trans (grown_of_below HB4.out _)) (hS.put _ hD) (by omega) (by omega) (fun b hb => ⟨by have := hb.2; omega, hb.1⟩)
end Go.Proofs.Ytkbdphjnpieceaa.G
