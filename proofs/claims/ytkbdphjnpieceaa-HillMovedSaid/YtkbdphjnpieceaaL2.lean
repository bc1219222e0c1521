/- The law's three, awake. -/
import Derived.Test.YtkbdphjnpieceaaL1
namespace Go.Proofs.Ytkbdphjnpieceaa.G
open Go.RowKit Go.Proofs.YtkbdphjnpieceaaW.PrintWords Go.Proofs.YtkbdphjnpieceaaW.PrintLast Go.Proofs.YtkbdphjnpieceaaW.PrintMore
open Go.Sort (grow)
set_option linter.unusedVariables false
set_option linter.unusedSimpArgs false

/-- The chapter's land, whose ridge has another top. -/
def three (top : Int) (A0 A1 A2 A3 : Option Addr) : Lv :=
  ⟨[⟨10, 10, 100, 1⟩, ⟨30, 10, 200, 1⟩, ⟨10, 30, 50, 2⟩], [⟨20, 5, 20, 15, 0, top⟩], [[], [⟨⟨5, 20, 25, 20, 0, 80⟩, 1, 2⟩]], [⟨50, 0, 0⟩, ⟨50, 0, 20⟩, ⟨-50, 0, 30⟩], A0, A1, A2, A3, 3, 1, 2, 3⟩
def threeAt (top : Int) (n : Nat) : Lv := three top (some ⟨n + 1, 0, none⟩) (some ⟨n + 1 + 1, 0, none⟩) (some ⟨n + 1 + 1 + 1 + 1, 0, none⟩) (some ⟨n + 1 + 1 + 1 + 1 + 1, 0, none⟩)
def o85 : Obj := .cells #[.int .i64 10, .int .i64 10, .int .i64 100, .int .i64 1, .int .i64 30, .int .i64 10, .int .i64 200, .int .i64 1, .int .i64 10, .int .i64 30, .int .i64 50, .int .i64 2] 85
def o86 (top : Int) : Obj := .cells #[.int .i64 20, .int .i64 5, .int .i64 20, .int .i64 15, .int .i64 0, .int .i64 top] 86
def o88 : Obj := .cells #[.int .i64 5, .int .i64 20, .int .i64 25, .int .i64 20, .int .i64 0, .int .i64 80, .int .i64 1, .int .i64 2] 88
def o89 (n : Nat) : Obj := .cells #[.slice none 0 0, .slice (some ⟨n + 1 + 1 + 1, 0, none⟩) 1 1] 89
def o99 : Obj := .cells #[.int .i64 50, .int .i64 0, .int .i64 0, .int .i64 50, .int .i64 0, .int .i64 20, .int .i64 (-50), .int .i64 0, .int .i64 30] 99
/-- The world behind it. -/
def threeW (w : World) (top : Int) : World := (((((w.alloc (.cells (threeAt top w.heap.size).cells 39)).alloc o85).alloc (o86 top)).alloc o88).alloc (o89 w.heap.size)).alloc o99
set_option maxHeartbeats 2000000 in
theorem three_w (top : Int) (w : World) : Calls Try.prog 44 #[.int .i64 top] w fun e w' => e = .returned (.agg (threeAt top w.heap.size).cells) ∧ threeW w top = w' := by
  go_enter Try.func44, Try.ntmps44
  go_wp2_with fail
  exact bodyPost_ret (v := .agg (threeAt top w.heap.size).cells) (by simp [results, Try.results44, go_sem, threeAt, three, Lv.cells]) rfl ⟨rfl, rfl⟩
theorem three_blk (w : World) (top : Int) : (threeW w top).heap[w.heap.size + 1]? = some o85 ∧ (threeW w top).heap[w.heap.size + 1 + 1]? = some (o86 top) ∧ (threeW w top).heap[w.heap.size + 1 + 1 + 1]? = some o88 ∧ (threeW w top).heap[w.heap.size + 1 + 1 + 1 + 1]? = some (o89 w.heap.size) ∧ (threeW w top).heap[w.heap.size + 1 + 1 + 1 + 1 + 1]? = some o99 := by
  have n1 : ∀ (W : World) (o : Obj) (n : Nat), n = W.heap.size → (W.alloc o).heap[n]? = some o := fun W o n h => by rw [h]; exact blk_new W o
  refine ⟨?_, ?_, ?_, ?_, ?_⟩
  · exact blk_alloc (blk_alloc (blk_alloc (blk_alloc (n1 _ _ _ (by simp)) _) _) _) _
  · exact blk_alloc (blk_alloc (blk_alloc (n1 _ _ _ (by simp)) _) _) _
  · exact blk_alloc (blk_alloc (n1 _ _ _ (by simp)) _) _
  · exact blk_alloc (n1 _ _ _ (by simp)) _
  · exact n1 _ _ _ (by simp)
theorem three_below (w : World) (top : Int) : Below w.heap.size w (threeW w top) := below_alloc (below_alloc (below_alloc (below_alloc (below_alloc (b1 _ _) _) _) _) _) _
theorem C_blk {α : Type} {d : Kd α} {W : World} {g : Nat} {t : TypeId} {cells : Array Value} (hb : W.heap[g]? = some (.cells cells t (0, 0))) {xs : List α} (hl : xs.length ≤ 9223372036854775807)
    (h : ∀ j p, xs[j]? = some p → ∃ c, d.K W p c ∧ ∀ i u, c[i]? = some u → cells[j * d.sz + i]? = some u) : Kd.C d W (some ⟨g, 0, none⟩) xs.length xs := by
  refine ⟨rfl, hl, fun _ => ⟨_, rfl, fun j p hj => ?_⟩⟩
  obtain ⟨c, hK, hc⟩ := h j p hj
  refine ⟨c, d.K_len hK, hK, fun i u hu => ?_⟩
  rw [add_plain, blk_cell hb]
  exact hc i u hu
theorem flat_at {α β : Type} (f : α → List β) (s : Nat) : ∀ (xs : List α), (∀ x ∈ xs, (f x).length = s) → ∀ (j : Nat) (p : α) (i : Nat) (u : β), xs[j]? = some p → (f p)[i]? = some u → (xs.flatMap f)[j * s + i]? = some u := by
  intro xs
  induction xs with
  | nil => intro _ j p i u h; simp at h
  | cons x xs ih =>
    intro hl j p i u hj hu
    have hx := hl x (by simp)
    rw [List.flatMap_cons]
    cases j with
    | zero =>
      have hp : x = p := by simpa using hj
      subst hp
      have : i < (f x).length := (List.getElem?_eq_some_iff.1 hu).1
      rw [Nat.zero_mul, Nat.zero_add, List.getElem?_append_left this]
      exact hu
    | succ j =>
      have hj' : xs[j]? = some p := by simpa using hj
      have e : (j + 1) * s + i = s + (j * s + i) := by rw [Nat.add_mul]; omega
      rw [e, List.getElem?_append_right (by omega)]
      have e2 : s + (j * s + i) - (f x).length = j * s + i := by omega
      rw [e2]
      exact ih (fun y hy => hl y (by simp [hy])) j p i u hj' hu
theorem C_flat {α : Type} {d : Kd α} {W : World} {g : Nat} {t : TypeId} {cells : Array Value} (hb : W.heap[g]? = some (.cells cells t (0, 0))) {xs : List α} (f : α → List Value) (hl : xs.length ≤ 9223372036854775807)
    (hc : cells = (xs.flatMap f).toArray) (hK : ∀ x, d.K W x (f x)) : Kd.C d W (some ⟨g, 0, none⟩) xs.length xs := by
  refine C_blk hb hl fun j p hj => ⟨f p, hK p, fun i u hu => ?_⟩
  rw [hc, List.getElem?_toArray]
  exact flat_at f d.sz xs (fun x _ => d.K_len (hK x)) j p i u hj hu
def f85 (x : S85) : List Value := [.int .i64 x.f0, .int .i64 x.f1, .int .i64 x.f2, .int .i64 x.f3]
def f86 (x : S86) : List Value := [.int .i64 x.f0, .int .i64 x.f1, .int .i64 x.f2, .int .i64 x.f3, .int .i64 x.f4, .int .i64 x.f5]
def f88 (x : S88) : List Value := [.int .i64 x.f0.f0, .int .i64 x.f0.f1, .int .i64 x.f0.f2, .int .i64 x.f0.f3, .int .i64 x.f0.f4, .int .i64 x.f0.f5, .int .i64 x.f1, .int .i64 x.f2]
def f99 (x : S99) : List Value := [.int .i64 x.f0, .int .i64 x.f1, .int .i64 x.f2]
theorem three_in (w : World) (top : Int) {W : World} (hb : Below (threeW w top).heap.size (threeW w top) W) : (threeAt top w.heap.size).In W := by
  have hI : (threeAt top w.heap.size).In (threeW w top) := by
    obtain ⟨h0, h1, h2, h3, h4⟩ := three_blk w top
    refine ⟨C_flat h0 f85 (by show 3 ≤ _; omega) rfl (fun x => k85_mk _ x), by show 3 ≤ 3; omega, C_flat h1 f86 (by show 1 ≤ _; omega) rfl (fun x => k86_mk _ x), ?_, C_flat h4 f99 (by show 3 ≤ _; omega) rfl (fun x => k99_mk _ x)⟩
    have hC := C_flat (α := S88) h2 f88 (xs := [⟨⟨5, 20, 25, 20, 0, 80⟩, 1, 2⟩]) (by show 1 ≤ _; omega) rfl (fun x => k88_mk _ x)
    refine C_blk (α := List S88) h3 (xs := [[], [⟨⟨5, 20, 25, 20, 0, 80⟩, 1, 2⟩]]) (by show 2 ≤ _; omega) fun j p hj => ?_
    match j, hj with
    | 0, hj =>
      obtain rfl : ([] : List S88) = p := by simpa using hj
      exact ⟨[.slice none 0 0], ⟨none, 0, rfl, Nat.le_refl _, Kd.C_nil _ _⟩, fun i u hu => by match i, hu with | 0, hu => exact hu⟩
    | 1, hj =>
      obtain rfl : ([⟨⟨5, 20, 25, 20, 0, 80⟩, 1, 2⟩] : List S88) = p := by simpa using hj
      exact ⟨[.slice (some ⟨w.heap.size + 1 + 1 + 1, 0, none⟩) 1 1], ⟨_, 1, rfl, Nat.le_refl _, hC⟩, fun i u hu => by match i, hu with | 0, hu => exact hu⟩
    | j + 2, hj => simp at hj
  exact hI.below hb
theorem three_c (top : Int) (w : World) : Calls Try.prog 44 #[.int .i64 top] w fun e w' => ∃ A0 A1 A2 A3, e = .returned (.agg #[.slice A0 3 3, .slice A1 1 1, .slice A2 2 2, .slice A3 3 3]) ∧ (three top A0 A1 A2 A3).In w' ∧ Below w.heap.size w w' :=
  (three_w top w).mono fun e w' ⟨he, hw⟩ => ⟨_, _, _, _, he, three_in w top (by rw [hw]; exact Below.refl _ _), by rw [← hw]; exact three_below w top⟩
/-- A list that is returned, read. -/
theorem R_read2 {w w' : World} {v : Value} {xs ys : List Int} (h : Kd.R (Kd.int .i64) 3 w' w.heap.size (fun _ => True) v xs) (e : xs = ys) : ∃ A c, v = .slice A ys.length c ∧ Kd.C (Kd.int .i64) w' A ys.length ys := by
  subst e
  obtain ⟨A, c, h1, _, h2⟩ := Kd.R_reads h
  exact ⟨A, c, h1, h2⟩
section
variable (A0 A1 A2 A3 : Option Addr) (W : World)
theorem aw_why (hI : (three 149 A0 A1 A2 A3).In W) : Calls Try.prog 38 #[.agg #[.slice A0 3 3, .slice A1 1 1, .slice A2 2 2, .slice A3 3 3], .int .i64 0, .int .i64 2, .int .i64 1, .int .i64 1] W fun e w' => e = .returned (.tuple #[.int .u8 4, .int .i64 0, .int .i64 0]) ∧ Below W.heap.size W w' :=
  (Why_c (three 149 A0 A1 A2 A3) 0 2 1 1 W hI).mono fun e w' ⟨he, hb⟩ => ⟨he.trans (by rw [show whyE (three 149 A0 A1 A2 A3) 0 2 1 1 = (4, 0, 0) from rfl]), hb⟩
theorem aw_hours (hI : (three 149 A0 A1 A2 A3).In W) : Calls Try.prog 33 #[.agg #[.slice A0 3 3, .slice A1 1 1, .slice A2 2 2, .slice A3 3 3], .int .i64 0, .int .i64 2, .int .i64 0] W fun e w' => ∃ A c, e = .returned (.tuple #[.slice A 2 c, .int .i64 0]) ∧ Kd.C (Kd.int .i64) w' A 2 [1, 2] ∧ Below W.heap.size W w' :=
  (Hours_c (three 149 A0 A1 A2 A3) 0 2 0 W hI).mono fun e w' ⟨v, he, hR, hb⟩ => by
    have hE : hoursE (three 149 A0 A1 A2 A3) 0 2 0 = ([1, 2], 0) := rfl
    rw [hE] at he hR
    obtain ⟨A, c, rfl, hC⟩ := R_read2 hR rfl
    exact ⟨A, c, he, hC, hb⟩
theorem aw_stick (hI : (three 149 A0 A1 A2 A3).In W) : Calls Try.prog 40 #[.agg #[.slice A0 3 3, .slice A1 1 1, .slice A2 2 2, .slice A3 3 3], .int .i64 0, .int .i64 2, .int .i64 1] W fun e w' => e = .returned (.tuple #[.int .i64 1, .int .i64 0]) ∧ Below W.heap.size W w' :=
  (Stick_c (three 149 A0 A1 A2 A3) 0 2 1 W hI).mono fun e w' ⟨he, hb⟩ => ⟨he.trans (by rw [show stickE (three 149 A0 A1 A2 A3) 0 2 1 = (1, 0) from rfl]), hb⟩
theorem aw_reach (hI : (three 149 A0 A1 A2 A3).In W) : Calls Try.prog 19 #[.agg #[.slice A0 3 3, .slice A1 1 1, .slice A2 2 2, .slice A3 3 3], .int .i64 0, .int .i64 0, .int .i64 1] W fun e w' => ∃ A c, e = .returned (.tuple #[.slice A 2 c, .int .i64 0]) ∧ Kd.C (Kd.int .i64) w' A 2 [1, 2] ∧ Below W.heap.size W w' :=
  (Reach_c (three 149 A0 A1 A2 A3) 0 0 1 W hI).mono fun e w' ⟨v, he, hR, hb⟩ => by
    have hE : reachE (three 149 A0 A1 A2 A3) 0 0 1 = ([1, 2], 0) := rfl
    rw [hE] at he hR
    obtain ⟨A, c, rfl, hC⟩ := R_read2 hR rfl
    exact ⟨A, c, he, hC, hb⟩
theorem aw_rise (hI : (three 159 A0 A1 A2 A3).In W) : Calls Try.prog 28 #[.agg #[.slice A0 3 3, .slice A1 1 1, .slice A2 2 2, .slice A3 3 3], .int .i64 0, .int .i64 1] W fun e w' => e = .returned (.tuple #[.int .i64 19, .int .i64 0]) ∧ Below W.heap.size W w' :=
  (Rise_c (three 159 A0 A1 A2 A3) 0 1 W hI).mono fun e w' ⟨he, hb⟩ => ⟨he.trans (by rw [show riseE (three 159 A0 A1 A2 A3) 0 1 = (19, 0) from rfl]), hb⟩
theorem aw_mir (hI : (three 149 A0 A1 A2 A3).In W) : Calls Try.prog 21 #[.agg #[.slice A0 3 3, .slice A1 1 1, .slice A2 2 2, .slice A3 3 3], .int .i64 2, .int .i64 1, .int .i64 2] W fun e w' => e = .returned (.tuple #[.int .i64 2, .int .i64 0]) ∧ Below W.heap.size W w' :=
  (Mirrors_c (three 149 A0 A1 A2 A3) 2 1 2 W hI).mono fun e w' ⟨he, hb⟩ => ⟨he.trans (by rw [show mirE (three 149 A0 A1 A2 A3) 2 1 2 = (2, 0) from rfl]), hb⟩
end
set_option maxHeartbeats 4000000 in
theorem awake_c (w : World) : Calls Try.prog 18 #[] w fun e w' => e = .returned (.bool true) ∧ Below w.heap.size w w' := by
  go_enter Try.func18, Try.ntmps18
  go_wp2_with fail
  refine (three_c 149 _).mono ?_
  rintro e wa0 ⟨A0, A1, A2, A3, rfl, hI, hb⟩
  have HI := Aside0.mk hI
  have HB0 := Aside0.mk (hb)
  clear hI hb
  go_wp2_with fail
  refine (aw_why A0 A1 A2 A3 _ HI.out).mono ?_
  rintro e wb0 ⟨rfl, hb2⟩
  have HB1 := Aside0.mk (bt HB0.out hb2)
  clear hb2 HI HB0
  go_wp2_with fail
  refine (three_c 149 _).mono ?_
  rintro e wa1 ⟨A0, A1, A2, A3, rfl, hI, hb⟩
  have HI := Aside0.mk hI
  have HB2 := Aside0.mk (bt HB1.out hb)
  clear hI hb
  go_wp2_with fail
  refine (aw_hours A0 A1 A2 A3 _ HI.out).mono ?_
  rintro e wb1 ⟨Ah, ch, rfl, hC, hb2⟩
  have HB3 := Aside0.mk (bt HB2.out hb2)
  have HC := Aside0.mk hC
  clear hC
  clear hb2 HI HB2
  go_wp2_with fail
  refine (three_c 149 _).mono ?_
  rintro e wa2 ⟨A0, A1, A2, A3, rfl, hI, hb⟩
  have HI := Aside0.mk hI
  have HB4 := Aside0.mk (bt HB3.out hb)
  replace HC := Aside0.mk (Kd.C_below HC.out hb)
  clear hI hb
  go_wp2_with fail
  refine (aw_stick A0 A1 A2 A3 _ HI.out).mono ?_
  rintro e wb2 ⟨rfl, hb2⟩
  have HB5 := Aside0.mk (bt HB4.out hb2)
  replace HC := Aside0.mk (Kd.C_below HC.out hb2)
  clear hb2 HI HB4
  go_wp2_with fail
  refine (three_c 149 _).mono ?_
  rintro e wa3 ⟨A0, A1, A2, A3, rfl, hI, hb⟩
  have HI := Aside0.mk hI
  have HB6 := Aside0.mk (bt HB5.out hb)
  replace HC := Aside0.mk (Kd.C_below HC.out hb)
  clear hI hb
  go_wp2_with fail
  refine (aw_reach A0 A1 A2 A3 _ HI.out).mono ?_
  rintro e wb3 ⟨Al, cl, rfl, hD, hb2⟩
  have HB7 := Aside0.mk (bt HB6.out hb2)
  have HD := Aside0.mk hD
  clear hD
  replace HC := Aside0.mk (Kd.C_below HC.out hb2)
  clear hb2 HI HB6
  go_wp2_with fail
  refine (three_c 159 _).mono ?_
  rintro e wa4 ⟨A0, A1, A2, A3, rfl, hI, hb⟩
  have HI := Aside0.mk hI
  have HB8 := Aside0.mk (bt HB7.out hb)
  replace HC := Aside0.mk (Kd.C_below HC.out hb)
  replace HD := Aside0.mk (Kd.C_below HD.out hb)
  clear hI hb
  go_wp2_with fail
  refine (aw_rise A0 A1 A2 A3 _ HI.out).mono ?_
  rintro e wb4 ⟨rfl, hb2⟩
  have HB9 := Aside0.mk (bt HB8.out hb2)
  replace HC := Aside0.mk (Kd.C_below HC.out hb2)
  replace HD := Aside0.mk (Kd.C_below HD.out hb2)
  clear hb2 HI HB8
  go_wp2_with fail
  refine (three_c 149 _).mono ?_
  rintro e wa5 ⟨A0, A1, A2, A3, rfl, hI, hb⟩
  have HI := Aside0.mk hI
  have HB10 := Aside0.mk (bt HB9.out hb)
  replace HC := Aside0.mk (Kd.C_below HC.out hb)
  replace HD := Aside0.mk (Kd.C_below HD.out hb)
  clear hI hb
  go_wp2_with fail
  refine (aw_mir A0 A1 A2 A3 _ HI.out).mono ?_
  rintro e wb5 ⟨rfl, hb2⟩
  have HB11 := Aside0.mk (bt HB10.out hb2)
  replace HC := Aside0.mk (Kd.C_below HC.out hb2)
  replace HD := Aside0.mk (Kd.C_below HD.out hb2)
  clear hb2 HI HB10
  go_wp2_with fail
  have hl : Kd.C (Kd.int .i64) (wb5.alloc (.cells #[.int .i64 1, .int .i64 2] 3)) (some ⟨wb5.heap.size, 0, none⟩) 2 [1, 2] := C_flat (α := Int) (d := Kd.int .i64) (blk_new wb5 _) (fun n => [.int .i64 n]) (by show 2 ≤ _; omega) rfl (fun _ => rfl)
  have hbn := b1 wb5 (.cells #[.int .i64 1, .int .i64 2] 3)
  refine (ints_c Ah (some ⟨wb5.heap.size, 0, none⟩) ch 2 [1, 2] [1, 2] _ (Kd.C_below HC.out hbn) hl).mono ?_
  rintro e w7 ⟨rfl, hb7⟩
  replace HD := Aside0.mk (Kd.C_below (Kd.C_below HD.out hbn) hb7)
  have HB12 := Aside0.mk (bt HB11.out (bt hbn hb7))
  clear hl hbn hb7 HC
  go_wp2_with fail
  have hl : Kd.C (Kd.int .i64) (w7.alloc (.cells #[.int .i64 1, .int .i64 2] 3)) (some ⟨w7.heap.size, 0, none⟩) 2 [1, 2] := C_flat (α := Int) (d := Kd.int .i64) (blk_new w7 _) (fun n => [.int .i64 n]) (by show 2 ≤ _; omega) rfl (fun _ => rfl)
  have hbn := b1 w7 (.cells #[.int .i64 1, .int .i64 2] 3)
  refine (ints_c Al (some ⟨w7.heap.size, 0, none⟩) cl 2 [1, 2] [1, 2] _ (Kd.C_below HD.out hbn) hl).mono ?_
  rintro e w8 ⟨rfl, hb8⟩
  have HB13 := Aside0.mk (bt HB12.out (bt hbn hb8))
  clear hl hbn hb8 HD
  go_wp2_with fail
  go_ret
  exact ⟨ret_bool rfl, HB13.out⟩
end Go.Proofs.Ytkbdphjnpieceaa.G
