/- Contract of work.ridges. Printed by gen_h9.py (h9_head.lean). -/
import Derived.Test.YtkbdphjnpieceaaH8
namespace Go.Proofs.Ytkbdphjnpieceaa.G
open Go.RowKit Go.Proofs.YtkbdphjnpieceaaW.PrintWords Go.Proofs.YtkbdphjnpieceaaW.PrintLast Go.Proofs.YtkbdphjnpieceaaW.PrintMore
open Go.Sort (grow)
set_option linter.unusedVariables false
set_option linter.unusedSimpArgs false

def ridges.T1 : Bool × List (List Nat × List Nat) := (true, [([], []), ([0], [0]), ([1], [1]), ([2], [2]), ([], []), ([3, 4], [3, 4]), ([5], [5]), ([6], [6]), ([6], [6]), ([7, 0, 1, 2, 3, 4, 5, 6, 7], [7]), ([8, 9, 0, 1, 2, 3, 4, 5, 6, 7, 8, 9], [8])])
def ridges.B1 : List Nat := [0, 1, 3, 7, 0, 31, 63, 127, 127, 255, 1023]
theorem ridges.tab1 : rtab .any (opsOf Try.f62 1) = ridges.T1 := by kernel_rfl
theorem ridges.bits1 : waitsOk ridges.T1.2 ridges.B1 = true := by kernel_rfl
def ridges.T10 : Bool × List (List Nat × List Nat) := (true, [([], []), ([0], [0]), ([1], [1]), ([2], [2]), ([], []), ([], []), ([3, 4, 5, 0, 1, 2, 3, 4, 5], [3, 4, 5])])
def ridges.B10 : List Nat := [0, 1, 3, 7, 0, 0, 63]
theorem ridges.tab10 : rtab .any (opsOf Try.f62 10) = ridges.T10 := by kernel_rfl
theorem ridges.bits10 : waitsOk ridges.T10.2 ridges.B10 = true := by kernel_rfl
def ridK (L : Lv) (f t : Int) (k : Nat) : List Int := ((List.range k).map Int.ofNat).filter fun i => blocksB (rd_T86 L.ri i) (rd_T85 L.st f) (rd_T85 L.st t)
theorem ridK_succ (L : Lv) (f t : Int) (k : Nat) : ridK L f t (k + 1) = if blocksB (rd_T86 L.ri k) (rd_T85 L.st f) (rd_T85 L.st t) = true then ridK L f t k ++ [(k : Int)] else ridK L f t k := by
  unfold ridK
  rw [List.range_succ, List.map_append, List.filter_append]
  by_cases h : blocksB (rd_T86 L.ri k) (rd_T85 L.st f) (rd_T85 L.st t) = true
  · rw [if_pos h]; simp [h]
  · rw [if_neg h]; simp [h]
theorem grown_of_below {w w1 : World} (h : Below w.heap.size w w1) (r : Option Nat) : w.grownBy w1 r := ⟨h.os, h.tape, h.output, h.size, fun k hk _ => h.block k hk⟩
theorem Memo.mono {L : Lv} {mb n n' : Nat} {N : Nat → Prop} {w : World} (h : Memo L mb n N w) (hn : n ≤ n') : Memo L mb n' N w := by
  obtain ⟨es, clock, h1, h2, h3, h4⟩ := h.ex
  exact ⟨es, clock, h1, h2, Nat.le_trans h3 hn, h4⟩
theorem Wk.mono {L : Lv} {g mb n n' : Nat} {N : Nat → Prop} {w : World} (h : Wk L g mb n N w) (hn : n ≤ n') : Wk L g mb n' N w := ⟨h.land, h.blk, h.memo.mono hn⟩
theorem ridK_len (L : Lv) (f t : Int) (k : Nat) : (ridK L f t k).length ≤ k := by
  unfold ridK
  exact Nat.le_trans (List.length_filter_le _ _) (by simp)
/-- A reading stays where all cells stay. -/
theorem C_cells {w w1 : World} (hs : ∀ a v, w.cell? a = some v → w1.cell? a = some v) {A : Option Addr} {n : Nat} {xs : List Int} (h : Kd.C (Kd.int .i64) w A n xs) : Kd.C (Kd.int .i64) w1 A n xs := by
  refine ⟨h.1, h.2.1, fun hn => ?_⟩
  obtain ⟨ad, e, hc⟩ := h.2.2 hn
  refine ⟨ad, e, fun j p hj => ?_⟩
  obtain ⟨c, h1, h2, h3⟩ := hc j p hj
  exact ⟨c, h1, h2, fun i u hu => hs _ _ (h3 i u hu)⟩
theorem C_cellsK {α : Type} {d : Kd α} {w w1 : World} (hs : ∀ a v, w.cell? a = some v → w1.cell? a = some v) (hK : ∀ x cs, d.K w x cs → d.K w1 x cs) {A : Option Addr} {n : Nat} {xs : List α} (h : Kd.C d w A n xs) : Kd.C d w1 A n xs := by
  refine ⟨h.1, h.2.1, fun hn => ?_⟩
  obtain ⟨ad, e, hc⟩ := h.2.2 hn
  refine ⟨ad, e, fun j p hj => ?_⟩
  obtain ⟨c, h1, h2, h3⟩ := hc j p hj
  exact ⟨c, h1, hK _ _ h2, fun i u hu => hs _ _ (h3 i u hu)⟩
theorem Lv.In.cells {L : Lv} {w w1 : World} (h : L.In w) (hs : ∀ a v, w.cell? a = some v → w1.cell? a = some v) : L.In w1 :=
  ⟨C_cellsK hs (fun x cs h => by rw [k85_open h]; exact k85_mk _ _) h.r0, h.h0, C_cellsK hs (fun x cs h => by rw [k86_open h]; exact k86_mk _ _) h.r1,
    C_cellsK hs (fun x cs h => by
      obtain ⟨A, c, rfl, h1, h2⟩ := h
      exact ⟨A, c, rfl, h1, C_cellsK hs (fun x cs h => by rw [k88_open h]; exact k88_mk _ _) h2⟩) h.r2, C_cellsK hs (fun x cs h => by rw [k99_open h]; exact k99_mk _ _) h.r3⟩
theorem zero30 (w : World) : (zeroValue 30).run Try.prog w = .ok (.slice none 0 0) w := by kernel_rfl
/-- What the map answers. -/
theorem Memo.look {L : Lv} {mb n : Nat} {N : Nat → Prop} {w : World} (h : Memo L mb n N w) {f t : Int} (hf : fits f) (ht : fits t) :
    ∃ lv kn, (Instr.lookup 125 (.map (some mb)) (.agg #[.int .i64 f, .int .i64 t]) true).run Try.prog w = .ok (.tuple #[lv, .bool kn]) w ∧
      ((kn = true ∧ ∃ A c, lv = .slice A (ridgesL L f t).length c ∧ Kd.C (Kd.int .i64) w A (ridgesL L f t).length (ridgesL L f t) ∧ ∀ ad, A = some ad → 0 < (ridgesL L f t).length → N ad.block) ∨ (kn = false ∧ lv = .slice none 0 0)) := by
  obtain ⟨es, clock, h1, h2, h3, h4⟩ := h.ex
  obtain ⟨kl, hk⟩ := key_pr hf ht
  rcases Go.Maps.fit_look true keyed95 Try.underlying125 (zero30 w) h1 h2 hk with ⟨e1, _⟩ | ⟨e0, y, m1, m2, m3, _⟩
  · exact ⟨_, _, e1, .inr ⟨rfl, rfl⟩⟩
  · exact ⟨_, _, m3, .inl ⟨rfl, h4 e0 m1 f t m2⟩⟩
/-- What a store leaves. -/
theorem Memo.store {L : Lv} {mb n : Nat} {N : Nat → Prop} {w : World} (h : Memo L mb n N w) (hn : n < 1000000) {f t : Int} (hf : fits f) (ht : fits t) {A : Option Addr} {c len : Nat} (hl : len = (ridgesL L f t).length) (hv : Kd.C (Kd.int .i64) w A (ridgesL L f t).length (ridgesL L f t)) (hA : ∀ ad, A = some ad → 0 < (ridgesL L f t).length → N ad.block) :
    ∃ es' clock', (Instr.mapUpdate 125 (.map (some mb)) (.agg #[.int .i64 f, .int .i64 t]) (.slice A len c)).run Try.prog w = .ok () (Go.ChangeMaps.setBlock w mb (.map es' clock')) ∧ w.grownBy (Go.ChangeMaps.setBlock w mb (.map es' clock')) (some mb) ∧
      (∀ a v, w.cell? a = some v → (Go.ChangeMaps.setBlock w mb (.map es' clock')).cell? a = some v) ∧ Memo L mb (n + 1) N (Go.ChangeMaps.setBlock w mb (.map es' clock')) := by
  obtain ⟨es, clock, h1, h2, h3, h4⟩ := h.ex
  obtain ⟨kl, hk⟩ := key_pr hf ht
  have hm : es.size < maxLen := Nat.lt_of_le_of_lt h3 (Nat.lt_trans hn (by decide))
  obtain ⟨es', clock', g1, g2, g3, g4, g5, g6⟩ := Go.Maps.fit_store (R := Rk) (R' := Rk) keyed95 Try.underlying125 h1 h2 hm (key := pr f t) (val := .slice A len c) (fun _ _ _ z hz => hz) hk (yv := (.map [], [])) rfl
  have hs : ∀ a v, w.cell? a = some v → (Go.ChangeMaps.setBlock w mb (.map es' clock')).cell? a = some v := by
    intro a v ha
    have hne : a.block ≠ mb := by
      intro e
      unfold World.cell? at ha
      rw [e, h1] at ha
      exact absurd ha (by simp)
    rw [← ha]
    exact World.cell?_of_block (Go.ChangeMaps.heap_setBlock_other h1 _ hne)
  refine ⟨es', clock', g1, ⟨rfl, rfl, rfl, by simp [Go.ChangeMaps.setBlock], fun i _ hi => Go.ChangeMaps.heap_setBlock_other h1 _ (fun e => hi (by rw [e]))⟩, hs, ⟨es', clock', Go.ChangeMaps.heap_setBlock_same h1 _, g2, ?_, ?_⟩⟩
  · have e1 : es'.size = ((es'.toList.map (Go.WideElems.rg Try.prog 95 Rk)).foldr DataW.insert []).length := by rw [Go.length_sorted]; simp
    rw [e1, g3]
    unfold Go.ChangeMaps.putKey
    rw [length_insert]
    have e2 := List.length_filter_le (Go.ChangeMaps.notKey kl) ((es.toList.map (Go.WideElems.rg Try.prog 95 Rk)).foldr DataW.insert [])
    rw [length_sorted] at e2
    simp at e2
    omega
  · intro x hx f' t' ek
    rcases g6 x hx with ⟨m1, _⟩ | ⟨m1, m2⟩
    · obtain ⟨A', c', q1, q2, q3⟩ := h4 x m1 f' t' ek
      exact ⟨A', c', q1, C_cells hs q2, q3⟩
    · rw [m1] at ek
      simp only [pr, Value.agg.injEq, Array.mk.injEq, List.cons.injEq, Value.int.injEq, true_and, and_true] at ek
      obtain ⟨rfl, rfl⟩ := ek
      exact ⟨A, c, by rw [m2, hl], C_cells hs hv, hA⟩

theorem Wk.blk_store {L : Lv} {g mb n : Nat} {N : Nat → Prop} {w w1 : World} (h : Wk L g mb n N w) (hg : w.grownBy w1 (some mb)) : w1.heap[g]? = some (.cells #[.slice L.A0 L.st.length L.c0, .slice L.A1 L.ri.length L.c1, .slice L.A2 L.ca.length L.c2, .slice L.A3 L.su.length L.c3, .map (some mb)] 127 (0, 0)) := by
  obtain ⟨es, clock, h1, _⟩ := h.memo.ex
  have hb := h.blk
  refine blk_grown hb hg ?_
  intro e
  injection e with e
  rw [e, h1] at hb
  cases hb
set_option maxHeartbeats 2000000 in
set_option maxRecDepth 100000 in
theorem ridges_c (L : Lv) (g mb n : Nat) (f t : Int) (w : World) {N : Nat → Prop} (hN : ∀ b, w.heap.size ≤ b → N b) (hW : Wk L g mb n N w) (hn : n < 1000000) (hf0 : 0 ≤ f) (hf : f < L.st.length) (ht0 : 0 ≤ t) (ht : t < L.st.length) (hlen : L.ri.length ≤ 6) (hlen0 : L.st.length ≤ 6)
    (oka : okSt (rd_T85 L.st f)) (okb : okSt (rd_T85 L.st t)) (okr : ∀ i : Nat, i < L.ri.length → okWl (rd_T86 L.ri i)) :
    Calls Try.prog 62 #[.pointer (some ⟨g, 0, none⟩), .agg #[.int .i64 f, .int .i64 t]] w fun e w' => ∃ A c, e = .returned (.slice A (ridgesL L f t).length c) ∧ Kd.C (Kd.int .i64) w' A (ridgesL L f t).length (ridgesL L f t) ∧ (∀ ad, A = some ad → 0 < (ridgesL L f t).length → N ad.block) ∧ Wk L g mb (n + 1) N w' ∧ w.grownBy w' (some mb) := by
  have hff : fits f := ⟨by omega, by omega⟩
  have hft : fits t := ⟨by omega, by omega⟩
  have HW := Aside0.mk hW
  have HO := Aside0.mk (And.intro oka (And.intro okb okr))
  clear hW oka okb okr
  go_enter Try.func62, Try.ntmps62
  go_upto_region 1 with fail
  refine wp_abs (fun W => Below w.heap.size w W ∧ W.heap[w.heap.size]? = some (.cells #[.int .i64 f, .int .i64 t] 95 (0, 0))) ⟨b1 _ _, blk_new _ _⟩ ?_
  rintro W ⟨hbW, hp⟩
  have HB := Aside0.mk hbW
  have BP := Aside0.mk hp
  clear hbW hp
  obtain ⟨W1, hW1⟩ : ∃ W1, W1 = W.drew := ⟨_, rfl⟩
  have HB1 := Aside0.mk (show Below w.heap.size w W1 by rw [hW1]; exact below_drew HB.out)
  have BP1 : Aside0 (W1.heap[w.heap.size]? = some (.cells #[.int .i64 f, .int .i64 t] 95 (0, 0))) := ⟨by rw [hW1]; exact blk_drew BP.out⟩
  clear HB BP
  have HW1 := Aside0.mk hW1
  clear hW1
  have WK := Aside0.mk (HW.out.below HB1.out)
  obtain ⟨lv, kn, hlk, hres⟩ := WK.out.memo.look hff hft
  have LK := Aside0.mk hlk
  have HRES := Aside0.mk hres
  clear hlk hres
  have G4 := Aside0.mk ((blk_cell WK.out.blk 4).trans rfl)
  have P0 := Aside0.mk ((blk_cell BP1.out 0).trans rfl)
  have P1 := Aside0.mk ((blk_cell BP1.out 1).trans rfl)
  refine start_ (n := 11) (S := fun w' => True) (ds := []) #[false, false, false, false, false, false, false, false, false, false, false] (by kernel_rfl) rfl rfl trivial (fun hHeld => ?_)
  refine with_tabW ridges.tab1 ridges.bits1 (fun HT_ HW_ => ?_)
  rw [← HW1.out]
  clear HW1
  have HE : Aside0 (W1 = W1) := ⟨rfl⟩
  refine inv_at [0, 1, 2, 3, 4, 5, 6, 7, 8, 9, 10] (fun a0_ b a w' => a = putSel a0_ b [(0, 10, .pointer (some ⟨g, 0, none⟩)), (1, 11, .pointer (some ⟨g, 0, none⟩)), (2, 12, .pointer (some ⟨g, 4, none⟩)), (3, 13, .map (some mb)), (4, 14, .agg #[.int .i64 f, .int .i64 t]), (5, 15, .tuple #[lv, .bool kn]), (6, 9, .tuple #[lv, .bool kn]), (7, 16, lv), (8, 17, .bool kn), (9, 5, lv), (10, 6, .bool kn)] ∧ (w' = W1)) HT_.out HW_.out (by kernel_rfl) (by kernel_rfl) ?_ ?_ ?_
  · exact ⟨by simp only [putSel, Bool.false_eq_true, if_false], HE.out⟩
  · skip
    clear HE
    refine steps_cons ?_ ?_
    · rintro b a w' ⟨ha, Q_HE⟩ hb_ hon hoff
      refine ⟨_, rfl, fun K hK => ?_⟩
      have e0 : a.tmps[0]? = some (.pointer (some ⟨g, 0, none⟩)) := by rw [ha]; exact (putSel_off rfl).trans rfl
      replace ha := Aside0.mk ha
      have HE := Aside0.mk Q_HE
      refine value_ (w1 := w') (v := .pointer (some ⟨g, 0, none⟩)) (by rfl) rfl ?_ ?_
      · go_simp
        (try simp only [i64_w])
        try rfl
      refine hK.out _ _ ⟨(by rw [ha.out]; exact putSel_upk 0 hb_ rfl rfl rfl), Q_HE⟩
    refine steps_cons ?_ ?_
    · rintro b a w' ⟨ha, Q_HE⟩ hb_ hon hoff
      refine ⟨_, rfl, fun K hK => ?_⟩
      have e10 : a.tmps[10]? = some (.pointer (some ⟨g, 0, none⟩)) := by rw [ha]; exact putSel_on (e := (0, 10, .pointer (some ⟨g, 0, none⟩))) 0 rfl rfl (hon 0 (by kernel_rfl)) rfl
      replace ha := Aside0.mk ha
      have HE := Aside0.mk Q_HE
      refine value_ (w1 := w') (v := .pointer (some ⟨g, 0, none⟩)) (by rfl) rfl ?_ ?_
      · go_simp
        (try simp only [i64_w])
        try rfl
      refine hK.out _ _ ⟨(by rw [ha.out]; exact putSel_upk 1 hb_ rfl rfl rfl), Q_HE⟩
    refine steps_cons ?_ ?_
    · rintro b a w' ⟨ha, Q_HE⟩ hb_ hon hoff
      refine ⟨_, rfl, fun K hK => ?_⟩
      have e11 : a.tmps[11]? = some (.pointer (some ⟨g, 0, none⟩)) := by rw [ha]; exact putSel_on (e := (1, 11, .pointer (some ⟨g, 0, none⟩))) 1 rfl rfl (hon 1 (by kernel_rfl)) rfl
      replace ha := Aside0.mk ha
      have HE := Aside0.mk Q_HE
      refine value_ (w1 := w') (v := .pointer (some ⟨g, 4, none⟩)) (by rfl) rfl ?_ ?_
      · go_simp
        (try simp only [i64_w])
        try rfl
      refine hK.out _ _ ⟨(by rw [ha.out]; exact putSel_upk 2 hb_ rfl rfl rfl), Q_HE⟩
    refine steps_cons ?_ ?_
    · rintro b a w' ⟨ha, Q_HE⟩ hb_ hon hoff
      refine ⟨_, rfl, fun K hK => ?_⟩
      have e12 : a.tmps[12]? = some (.pointer (some ⟨g, 4, none⟩)) := by rw [ha]; exact putSel_on (e := (2, 12, .pointer (some ⟨g, 4, none⟩))) 2 rfl rfl (hon 2 (by kernel_rfl)) rfl
      replace ha := Aside0.mk ha
      have HE := Aside0.mk Q_HE
      subst W1
      have c4 := G4.out
      refine value_ (w1 := w') (v := .map (some mb)) (by rfl) rfl ?_ ?_
      · go_simp
        (try simp only [i64_w])
        try rfl
      refine hK.out _ _ ⟨(by rw [ha.out]; exact putSel_upk 3 hb_ rfl rfl rfl), rfl⟩
    refine steps_cons ?_ ?_
    · rintro b a w' ⟨ha, Q_HE⟩ hb_ hon hoff
      refine ⟨_, rfl, fun K hK => ?_⟩
      have e3 : a.tmps[3]? = some (.pointer (some ⟨w.heap.size, 0, none⟩)) := by rw [ha]; exact (putSel_off rfl).trans rfl
      replace ha := Aside0.mk ha
      have HE := Aside0.mk Q_HE
      subst W1
      have p0 := P0.out
      have p1 := P1.out
      refine value_ (w1 := w') (v := .agg #[.int .i64 f, .int .i64 t]) (by rfl) rfl ?_ ?_
      · go_simp
        (try simp only [i64_w])
        try rfl
      refine hK.out _ _ ⟨(by rw [ha.out]; exact putSel_upk 4 hb_ rfl rfl rfl), rfl⟩
    refine steps_cons ?_ ?_
    · rintro b a w' ⟨ha, Q_HE⟩ hb_ hon hoff
      refine ⟨_, rfl, fun K hK => ?_⟩
      have e13 : a.tmps[13]? = some (.map (some mb)) := by rw [ha]; exact putSel_on (e := (3, 13, .map (some mb))) 3 rfl rfl (hon 3 (by kernel_rfl)) rfl
      have e14 : a.tmps[14]? = some (.agg #[.int .i64 f, .int .i64 t]) := by rw [ha]; exact putSel_on (e := (4, 14, .agg #[.int .i64 f, .int .i64 t])) 4 rfl rfl (hon 4 (by kernel_rfl)) rfl
      replace ha := Aside0.mk ha
      have HE := Aside0.mk Q_HE
      subst W1
      have lk := LK.out
      refine value_ (w1 := w') (v := .tuple #[lv, .bool kn]) (by rfl) rfl ?_ ?_
      · go_simp
        (try simp only [i64_w])
        try rfl
      refine hK.out _ _ ⟨(by rw [ha.out]; exact putSel_upk 5 hb_ rfl rfl rfl), rfl⟩
    refine steps_cons ?_ ?_
    · rintro b a w' ⟨ha, Q_HE⟩ hb_ hon hoff
      refine ⟨_, rfl, fun K hK => ?_⟩
      have e15 : a.tmps[15]? = some (.tuple #[lv, .bool kn]) := by rw [ha]; exact putSel_on (e := (5, 15, .tuple #[lv, .bool kn])) 5 rfl rfl (hon 5 (by kernel_rfl)) rfl
      replace ha := Aside0.mk ha
      have HE := Aside0.mk Q_HE
      refine value_ (w1 := w') (v := .tuple #[lv, .bool kn]) (by rfl) rfl ?_ ?_
      · go_simp
        (try simp only [i64_w])
        try rfl
      refine hK.out _ _ ⟨(by rw [ha.out]; exact putSel_upk 6 hb_ rfl rfl rfl), Q_HE⟩
    refine steps_cons ?_ ?_
    · rintro b a w' ⟨ha, Q_HE⟩ hb_ hon hoff
      refine ⟨_, rfl, fun K hK => ?_⟩
      have e9 : a.tmps[9]? = some (.tuple #[lv, .bool kn]) := by rw [ha]; exact putSel_on (e := (6, 9, .tuple #[lv, .bool kn])) 6 rfl rfl (hon 6 (by kernel_rfl)) rfl
      replace ha := Aside0.mk ha
      have HE := Aside0.mk Q_HE
      refine value_ (w1 := w') (v := lv) (by rfl) rfl ?_ ?_
      · go_simp
        (try simp only [i64_w])
        try rfl
      refine hK.out _ _ ⟨(by rw [ha.out]; exact putSel_upk 7 hb_ rfl rfl rfl), Q_HE⟩
    refine steps_cons ?_ ?_
    · rintro b a w' ⟨ha, Q_HE⟩ hb_ hon hoff
      refine ⟨_, rfl, fun K hK => ?_⟩
      have e9 : a.tmps[9]? = some (.tuple #[lv, .bool kn]) := by rw [ha]; exact putSel_on (e := (6, 9, .tuple #[lv, .bool kn])) 6 rfl rfl (hon 6 (by kernel_rfl)) rfl
      replace ha := Aside0.mk ha
      have HE := Aside0.mk Q_HE
      refine value_ (w1 := w') (v := .bool kn) (by rfl) rfl ?_ ?_
      · go_simp
        (try simp only [i64_w])
        try rfl
      refine hK.out _ _ ⟨(by rw [ha.out]; exact putSel_upk 8 hb_ rfl rfl rfl), Q_HE⟩
    refine steps_cons ?_ ?_
    · rintro b a w' ⟨ha, Q_HE⟩ hb_ hon hoff
      refine ⟨_, rfl, fun K hK => ?_⟩
      have e16 : a.tmps[16]? = some (lv) := by rw [ha]; exact putSel_on (e := (7, 16, lv)) 7 rfl rfl (hon 7 (by kernel_rfl)) rfl
      replace ha := Aside0.mk ha
      have HE := Aside0.mk Q_HE
      refine value_ (w1 := w') (v := lv) (by rfl) rfl ?_ ?_
      · go_simp
        (try simp only [i64_w])
        try rfl
      refine hK.out _ _ ⟨(by rw [ha.out]; exact putSel_upk 9 hb_ rfl rfl rfl), Q_HE⟩
    refine steps_cons ?_ ?_
    · rintro b a w' ⟨ha, Q_HE⟩ hb_ hon hoff
      refine ⟨_, rfl, fun K hK => ?_⟩
      have e17 : a.tmps[17]? = some (.bool kn) := by rw [ha]; exact putSel_on (e := (8, 17, .bool kn)) 8 rfl rfl (hon 8 (by kernel_rfl)) rfl
      replace ha := Aside0.mk ha
      have HE := Aside0.mk Q_HE
      refine value_ (w1 := w') (v := .bool kn) (by rfl) rfl ?_ ?_
      · go_simp
        (try simp only [i64_w])
        try rfl
      refine hK.out _ _ ⟨(by rw [ha.out]; exact putSel_upk 10 hb_ rfl rfl rfl), Q_HE⟩
    exact steps_nil
  · rintro b a w' hall ⟨ha, Q_HE⟩
    clear HE
    have hb0_ := hall 0 (by kernel_rfl)
    have hb1_ := hall 1 (by kernel_rfl)
    have hb2_ := hall 2 (by kernel_rfl)
    have hb3_ := hall 3 (by kernel_rfl)
    have hb4_ := hall 4 (by kernel_rfl)
    have hb5_ := hall 5 (by kernel_rfl)
    have hb6_ := hall 6 (by kernel_rfl)
    have hb7_ := hall 7 (by kernel_rfl)
    have hb8_ := hall 8 (by kernel_rfl)
    have hb9_ := hall 9 (by kernel_rfl)
    have hb10_ := hall 10 (by kernel_rfl)
    subst ha
    simp only [putSel, hb0_, hb1_, hb2_, hb3_, hb4_, hb5_, hb6_, hb7_, hb8_, hb9_, hb10_, if_true, Act.put, List.setIfInBounds_toArray, List.set_cons_zero, List.set_cons_succ]
    have HE := Aside0.mk Q_HE
    clear Q_HE
    clear hall hb0_ hb1_ hb2_ hb3_ hb4_ hb5_ hb6_ hb7_ hb8_ hb9_ hb10_
    have he := HE.out
    clear HE LK
    subst he
    rcases HRES.out with ⟨rfl, A, c, rfl, hr, hrN⟩ | ⟨rfl, rfl⟩
    · have HR := Aside0.mk hr
      clear hr HRES
      go_wp2_with fail
      go_ret
      exact ⟨A, c, rfl, HR.out, hrN, WK.out.mono (Nat.le_succ _), grown_of_below HB1.out _⟩
    · clear HRES
      have g1 := (blk_cell WK.out.blk 1).trans rfl
      go_wp2_with fail
      go_loopg [5, 26] L.ri.length (fun gg s5 s26 wr => ∃ k : Nat, s26 = .int .i64 (k : Int) ∧ k ≤ L.ri.length ∧ L.ri.length - k ≤ gg ∧ Aside0 (Kd.R (Kd.int .i64) 3 wr w.heap.size (fun _ => True) s5 (ridK L f t k)) ∧ Aside0 (Below w.heap.size w wr) ∧ Aside0 (wr.heap[w.heap.size]? = some (.cells #[.int .i64 f, .int .i64 t] 95 (0, 0))))
      case atStart => exact ⟨0, rfl, Nat.zero_le _, Nat.le_refl _, ⟨Kd.R_nil _ _ _ _ _⟩, HB1, BP1⟩
      case round =>
        clear g1 WK HB1 BP1 G4 P0 P1
        obtain ⟨k, rfl, hk, hg, HR, HB, BP⟩ := hrel
        have WK := Aside0.mk (HW.out.below HB.out)
        by_cases hlt : k < L.ri.length
        · have hlti : (k : Int) < L.ri.length := by omega
          have hmx : max (k : Int) 0 = k := by omega
          obtain ⟨adr, er, x0, x1, x2, x3, x4, x5⟩ := at_T86 WK.out.land.r1 k (by omega) hlti
          simp only [Int.toNat_natCast] at x0 x1 x2 x3 x4 x5
          go_upto_region 7 with fail
          refine wp_abs (fun V => Below wr.heap.size wr V ∧ V.heap[wr.heap.size]? = some (.cells #[.int .i64 (rd_T86 L.ri k).f0, .int .i64 (rd_T86 L.ri k).f1, .int .i64 (rd_T86 L.ri k).f2, .int .i64 (rd_T86 L.ri k).f3, .int .i64 (rd_T86 L.ri k).f4, .int .i64 (rd_T86 L.ri k).f5] 86 (0, 0))) ⟨b1 _ _, blk_new _ _⟩ ?_
          rintro V ⟨hbV, hBV⟩
          clear x0 x1 x2 x3 x4 x5 er
          obtain ⟨ad0, e0, x0, x1, x2, x3⟩ := at_T85 WK.out.land.r0 f hf0 hf
          obtain ⟨ad0', e0', y0, y1, y2, y3⟩ := at_T85 WK.out.land.r0 t ht0 ht
          rw [e0] at e0'
          cases e0'
          have cg0 := (blk_cell WK.out.blk 0).trans rfl
          rw [e0] at cg0
          have hl0 := WK.out.land.r0.2.1
          have P0 := (blk_cell (blk_below BP.out hbV) 0).trans rfl
          have P1 := (blk_cell (blk_below BP.out hbV) 1).trans rfl
          have z0 := (blk_cell hBV 0).trans rfl
          have z1 := (blk_cell hBV 1).trans rfl
          have z2 := (blk_cell hBV 2).trans rfl
          have z3 := (blk_cell hBV 3).trans rfl
          have z4 := (blk_cell hBV 4).trans rfl
          have z5 := (blk_cell hBV 5).trans rfl
          have CG0 := fun d os => cell_regrown (cb hbV cg0) d os
          have X0 := fun d os => cell_regrown (cb hbV x0) d os
          have X1 := fun d os => cell_regrown (cb hbV x1) d os
          have X2 := fun d os => cell_regrown (cb hbV x2) d os
          have X3 := fun d os => cell_regrown (cb hbV x3) d os
          have Y0 := fun d os => cell_regrown (cb hbV y0) d os
          have Y1 := fun d os => cell_regrown (cb hbV y1) d os
          have Y2 := fun d os => cell_regrown (cb hbV y2) d os
          have Y3 := fun d os => cell_regrown (cb hbV y3) d os
          replace P0 := fun d os => cell_regrown P0 d os
          replace P1 := fun d os => cell_regrown P1 d os
          replace z0 := fun d os => cell_regrown z0 d os
          replace z1 := fun d os => cell_regrown z1 d os
          replace z2 := fun d os => cell_regrown z2 d os
          replace z3 := fun d os => cell_regrown z3 d os
          replace z4 := fun d os => cell_regrown z4 d os
          replace z5 := fun d os => cell_regrown z5 d os
          have HBV := Aside0.mk hbV
          clear hbV hBV cg0 x0 x1 x2 x3 y0 y1 y2 y3 e0
          have SB := fun w => blocks_c (rd_T86 L.ri k) (rd_T85 L.st f) (rd_T85 L.st t) (HO.out.2.2 k hlt) HO.out.1 HO.out.2.1 w
          have HS := ridK_succ L f t k
          cases hbl : blocksB (rd_T86 L.ri k) (rd_T85 L.st f) (rd_T85 L.st t)
          all_goals
            rw [hbl] at HS SB
            have HSA := Aside0.mk HS
            clear hbl HS
            refine wp_region_quiet_below (by kernel_rfl) (by kernel_rfl) ?_
            repeat (go_big_quiet_step (exact Calls.regrown_of (SB _)))
            refine wpQuiet_nil ?_
            intro _ hw'
            obtain ⟨⟨dq, osq⟩, hw''⟩ := hw'
            subst hw''
            clear SB CG0 X0 X1 X2 X3 Y0 Y1 Y2 Y3 P0 P1 z0 z1 z2 z3 z4 z5
            have hbq := bt HBV.out (below_regrown V dq osq)
            generalize grow (redrawn V dq) osq = V2 at *
            replace HR := Aside0.mk (Kd.R_below HR.out hbq)
            replace BP := Aside0.mk (blk_below BP.out hbq)
            replace HB := Aside0.mk (bt HB.out hbq)
            clear hbq HBV WK
          · go_wp2_with fail
            go_roundg (L.ri.length - (k + 1))
            case measure => omega
            case rel => exact ⟨k + 1, by simp, hlt, Nat.le_refl _, ⟨by rw [HSA.out]; simpa using HR.out⟩, HB, BP⟩
          · have hlk := ridK_len L f t k
            go_wp2_with (first | ((with_reducible refine gate_builtin (b := .append) (xs := #[.tmp 51, .tmp 53]) rfl ?_); at_builtin; refine Kd.R_append (Kd.int .i64) (w0 := w) w.heap.size rfl (.tmp 51) (.tmp 53) 30 3 (.int .i64 0) 8 rfl Try.underlying30 info3 rfl (by decide) (by omega) u5 (ridK L f t k) (k : Int) [.int .i64 (k : Int)] (fun _ => True) (fun _ => False) rfl rfl ?aP (fun _ hk => hk.elim) ?aF ?aO ?aB ?aS ?aL ?_; (case aP => exact rfl); (case aB => exact HB.out); (case aF => exact (fun _ _ => trivial)); (case aO => exact HR.out); (case aS => exact below_size HB.out); (case aL => omega); intro v3 w3 ho hb hg hat; have BP3 := Aside0.mk (blk_grown BP.out hg (Kd.R_ne HR.out BP.out (by decide))); have HB3 := Aside0.mk hb; have HR3 := Aside0.mk ho; clear ho hb hg hat HR BP HB))
            go_roundg (L.ri.length - (k + 1))
            case measure => omega
            case rel => exact ⟨k + 1, by simp, hlt, Nat.le_refl _, ⟨by rw [HSA.out]; simpa using HR3.out⟩, HB3, BP3⟩
        · obtain rfl : k = L.ri.length := by omega
          obtain ⟨inner, hown⟩ := Kd.R_own HR.out
          obtain ⟨A, c, rfl, hle, hC⟩ := Kd.R_reads HR.out
          have hA : ∀ ad, A = some ad → 0 < (ridgesL L f t).length → N ad.block := fun ad e _ => hN _ (World.ownsRow.lt hown ad.block (by rw [e]; rfl)).1
          have HC := Aside0.mk hC
          clear hC
          go_upto_region 10 with fail
          obtain ⟨W1, hW1⟩ : ∃ W1, W1 = wr.drew := ⟨_, rfl⟩
          have HB1 := Aside0.mk (show Below wr.heap.size wr W1 by rw [hW1]; exact below_drew (Below.refl _ _))
          have HW1 := Aside0.mk hW1
          clear hW1
          replace WK := Aside0.mk (WK.out.below HB1.out)
          replace BP := Aside0.mk (blk_below BP.out HB1.out)
          replace HC := Aside0.mk (Kd.C_below HC.out HB1.out)
          replace HB := Aside0.mk (bt HB.out HB1.out)
          clear HB1 HR
          obtain ⟨es', clock', u1, u2, u3, u4⟩ := WK.out.memo.store hn hff hft (A := A) (c := c) (len := (ridK L f t L.ri.length).length) rfl HC.out hA
          have UP := Aside0.mk u1
          have UG := Aside0.mk (And.intro u2 (And.intro u3 u4))
          clear u1 u2 u3 u4
          have G4 := Aside0.mk ((blk_cell WK.out.blk 4).trans rfl)
          have P0 := Aside0.mk ((blk_cell BP.out 0).trans rfl)
          have P1 := Aside0.mk ((blk_cell BP.out 1).trans rfl)
          refine start_ (n := 7) (S := fun w' => True) (ds := []) #[false, false, false, false, false, false, false] (by kernel_rfl) rfl rfl trivial (fun hHeld => ?_)
          refine with_tabW ridges.tab10 ridges.bits10 (fun HT_ HW_ => ?_)
          rw [← HW1.out]
          clear HW1
          have HE : Aside0 (W1 = W1) := ⟨rfl⟩
          refine inv_at [0, 1, 2, 3, 4, 5, 6] (fun a0_ b a w' => a = putSel a0_ b [(0, 56, .pointer (some ⟨g, 0, none⟩)), (1, 57, .pointer (some ⟨g, 0, none⟩)), (2, 58, .pointer (some ⟨g, 4, none⟩)), (3, 59, .map (some mb)), (4, 60, .agg #[.int .i64 f, .int .i64 t]), (5, 61, .slice A (ridK L f t L.ri.length).length c)] ∧ (b 6 = false → w' = W1) ∧ (b 6 = true → w' = Go.ChangeMaps.setBlock W1 mb (.map es' clock'))) HT_.out HW_.out (by kernel_rfl) (by kernel_rfl) ?_ ?_ ?_
          · exact ⟨by simp only [putSel, Bool.false_eq_true, if_false], fun _ => HE.out, fun h_ => absurd h_ (by decide)⟩
          · skip
            clear HE
            refine steps_cons ?_ ?_
            · rintro b a w' ⟨ha, Q_HE, Q_HF⟩ hb_ hon hoff
              refine ⟨_, rfl, fun K hK => ?_⟩
              have e0 : a.tmps[0]? = some (.pointer (some ⟨g, 0, none⟩)) := by rw [ha]; exact (putSel_off rfl).trans rfl
              replace ha := Aside0.mk ha
              have HE := Aside0.mk (Q_HE (hoff 6 (by kernel_rfl)))
              refine value_ (w1 := w') (v := .pointer (some ⟨g, 0, none⟩)) (by rfl) rfl ?_ ?_
              · go_simp
                (try simp only [i64_w])
                try rfl
              refine hK.out _ _ ⟨(by rw [ha.out]; exact putSel_upk 0 hb_ rfl rfl rfl), Q_HE, fun h0_ => absurd ((hoff 6 (by kernel_rfl)).symm.trans h0_) (by decide)⟩
            refine steps_cons ?_ ?_
            · rintro b a w' ⟨ha, Q_HE, Q_HF⟩ hb_ hon hoff
              refine ⟨_, rfl, fun K hK => ?_⟩
              have e56 : a.tmps[56]? = some (.pointer (some ⟨g, 0, none⟩)) := by rw [ha]; exact putSel_on (e := (0, 56, .pointer (some ⟨g, 0, none⟩))) 0 rfl rfl (hon 0 (by kernel_rfl)) rfl
              replace ha := Aside0.mk ha
              have HE := Aside0.mk (Q_HE (hoff 6 (by kernel_rfl)))
              refine value_ (w1 := w') (v := .pointer (some ⟨g, 0, none⟩)) (by rfl) rfl ?_ ?_
              · go_simp
                (try simp only [i64_w])
                try rfl
              refine hK.out _ _ ⟨(by rw [ha.out]; exact putSel_upk 1 hb_ rfl rfl rfl), Q_HE, fun h0_ => absurd ((hoff 6 (by kernel_rfl)).symm.trans h0_) (by decide)⟩
            refine steps_cons ?_ ?_
            · rintro b a w' ⟨ha, Q_HE, Q_HF⟩ hb_ hon hoff
              refine ⟨_, rfl, fun K hK => ?_⟩
              have e57 : a.tmps[57]? = some (.pointer (some ⟨g, 0, none⟩)) := by rw [ha]; exact putSel_on (e := (1, 57, .pointer (some ⟨g, 0, none⟩))) 1 rfl rfl (hon 1 (by kernel_rfl)) rfl
              replace ha := Aside0.mk ha
              have HE := Aside0.mk (Q_HE (hoff 6 (by kernel_rfl)))
              refine value_ (w1 := w') (v := .pointer (some ⟨g, 4, none⟩)) (by rfl) rfl ?_ ?_
              · go_simp
                (try simp only [i64_w])
                try rfl
              refine hK.out _ _ ⟨(by rw [ha.out]; exact putSel_upk 2 hb_ rfl rfl rfl), Q_HE, fun h0_ => absurd ((hoff 6 (by kernel_rfl)).symm.trans h0_) (by decide)⟩
            refine steps_cons ?_ ?_
            · rintro b a w' ⟨ha, Q_HE, Q_HF⟩ hb_ hon hoff
              refine ⟨_, rfl, fun K hK => ?_⟩
              have e58 : a.tmps[58]? = some (.pointer (some ⟨g, 4, none⟩)) := by rw [ha]; exact putSel_on (e := (2, 58, .pointer (some ⟨g, 4, none⟩))) 2 rfl rfl (hon 2 (by kernel_rfl)) rfl
              replace ha := Aside0.mk ha
              have HE := Aside0.mk (Q_HE (hoff 6 (by kernel_rfl)))
              have he_ := HE.out
              clear HE
              subst he_
              have c4 := G4.out
              refine value_ (w1 := w') (v := .map (some mb)) (by rfl) rfl ?_ ?_
              · go_simp
                (try simp only [i64_w])
                try rfl
              refine hK.out _ _ ⟨(by rw [ha.out]; exact putSel_upk 3 hb_ rfl rfl rfl), fun _ => rfl, fun h0_ => absurd ((hoff 6 (by kernel_rfl)).symm.trans h0_) (by decide)⟩
            refine steps_cons ?_ ?_
            · rintro b a w' ⟨ha, Q_HE, Q_HF⟩ hb_ hon hoff
              refine ⟨_, rfl, fun K hK => ?_⟩
              have e3 : a.tmps[3]? = some (.pointer (some ⟨w.heap.size, 0, none⟩)) := by rw [ha]; exact (putSel_off rfl).trans rfl
              replace ha := Aside0.mk ha
              have HE := Aside0.mk (Q_HE (hoff 6 (by kernel_rfl)))
              have he_ := HE.out
              clear HE
              subst he_
              have p0 := P0.out
              have p1 := P1.out
              refine value_ (w1 := w') (v := .agg #[.int .i64 f, .int .i64 t]) (by rfl) rfl ?_ ?_
              · go_simp
                (try simp only [i64_w])
                try rfl
              refine hK.out _ _ ⟨(by rw [ha.out]; exact putSel_upk 4 hb_ rfl rfl rfl), fun _ => rfl, fun h0_ => absurd ((hoff 6 (by kernel_rfl)).symm.trans h0_) (by decide)⟩
            refine steps_cons ?_ ?_
            · rintro b a w' ⟨ha, Q_HE, Q_HF⟩ hb_ hon hoff
              refine ⟨_, rfl, fun K hK => ?_⟩
              have e5 : a.tmps[5]? = some (.slice A (ridK L f t L.ri.length).length c) := by rw [ha]; exact (putSel_off rfl).trans rfl
              replace ha := Aside0.mk ha
              have HE := Aside0.mk (Q_HE (hoff 6 (by kernel_rfl)))
              refine value_ (w1 := w') (v := .slice A (ridK L f t L.ri.length).length c) (by rfl) rfl ?_ ?_
              · go_simp
                (try simp only [i64_w])
                try rfl
              refine hK.out _ _ ⟨(by rw [ha.out]; exact putSel_upk 5 hb_ rfl rfl rfl), Q_HE, fun h0_ => absurd ((hoff 6 (by kernel_rfl)).symm.trans h0_) (by decide)⟩
            refine steps_cons ?_ ?_
            · rintro b a w' ⟨ha, Q_HE, Q_HF⟩ hb_ hon hoff
              refine ⟨_, rfl, fun K hK => ?_⟩
              have e59 : a.tmps[59]? = some (.map (some mb)) := by rw [ha]; exact putSel_on (e := (3, 59, .map (some mb))) 3 rfl rfl (hon 3 (by kernel_rfl)) rfl
              have e60 : a.tmps[60]? = some (.agg #[.int .i64 f, .int .i64 t]) := by rw [ha]; exact putSel_on (e := (4, 60, .agg #[.int .i64 f, .int .i64 t])) 4 rfl rfl (hon 4 (by kernel_rfl)) rfl
              have e61 : a.tmps[61]? = some (.slice A (ridK L f t L.ri.length).length c) := by rw [ha]; exact putSel_on (e := (5, 61, .slice A (ridK L f t L.ri.length).length c)) 5 rfl rfl (hon 5 (by kernel_rfl)) rfl
              replace ha := Aside0.mk ha
              have HE := Aside0.mk (Q_HE hb_)
              have he_ := HE.out
              clear HE
              subst he_
              have up_ := UP.out
              refine skip_ (w1 := Go.ChangeMaps.setBlock w' mb (.map es' clock')) (by rfl) rfl (by go_simp) ?_
              refine hK.out _ _ ⟨(by rw [ha.out]; exact putSel_none (v := undef) rfl), fun h0_ => absurd ((up_self b 6).symm.trans h0_) (by decide), fun _ => rfl⟩
            exact steps_nil
          · rintro b a w' hall ⟨ha, Q_HE, Q_HF⟩
            clear HE
            have hb0_ := hall 0 (by kernel_rfl)
            have hb1_ := hall 1 (by kernel_rfl)
            have hb2_ := hall 2 (by kernel_rfl)
            have hb3_ := hall 3 (by kernel_rfl)
            have hb4_ := hall 4 (by kernel_rfl)
            have hb5_ := hall 5 (by kernel_rfl)
            have hb6_ := hall 6 (by kernel_rfl)
            subst ha
            simp only [putSel, hb0_, hb1_, hb2_, hb3_, hb4_, hb5_, hb6_, if_true, Act.put, List.setIfInBounds_toArray, List.set_cons_zero, List.set_cons_succ]
            clear Q_HE
            have HF := Aside0.mk (Q_HF hb6_)
            clear Q_HF
            clear hall hb0_ hb1_ hb2_ hb3_ hb4_ hb5_ hb6_
            have hF := HF.out
            clear HF UP G4 P0 P1
            subst hF
            go_wp2_with fail
            go_ret
            exact ⟨A, c, rfl, UG.out.2.1 |> fun hs => C_cells hs HC.out, hA, ⟨WK.out.land.cells UG.out.2.1, WK.out.blk_store UG.out.1, UG.out.2.2⟩, (grown_of_below HB.out _).trans UG.out.1⟩
end Go.Proofs.Ytkbdphjnpieceaa.G
