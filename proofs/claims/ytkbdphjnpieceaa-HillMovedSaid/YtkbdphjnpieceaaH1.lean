/- slices.IndexFunc, slices.ContainsFunc and hill.all at each of their types. -/
import Derived.Test.YtkbdphjnpieceaaH0
namespace Go.Proofs.Ytkbdphjnpieceaa.G
open Go.RowKit Go.Proofs.YtkbdphjnpieceaaW.PrintWords Go.Proofs.YtkbdphjnpieceaaW.PrintLast Go.Proofs.YtkbdphjnpieceaaW.PrintMore
set_option linter.unusedVariables false
set_option linter.unusedSimpArgs false

/-- The first index at which p does not hold, or -1. -/
def firstNot {α : Type} (p : α → Bool) (xs : List α) : Int := if xs.all p = true then -1 else (xs.findIdx (fun x => !p x) : Nat)
theorem firstNot_hit {α : Type} (p : α → Bool) (xs : List α) (z : α) (i : Int) (h0 : 0 ≤ i) (hi : i < xs.length) (hb : ∀ j : Nat, (j : Int) < i → p (xs.getD j z) = true) (hp : p (xs.getD i.toNat z) = false) : firstNot p xs = i := by
  obtain ⟨k, rfl⟩ := Int.eq_ofNat_of_zero_le h0
  have hk : k < xs.length := by omega
  simp only [Int.toNat_natCast] at hp
  have hp' : p xs[k] = false := by simpa [List.getD_eq_getElem?_getD, List.getElem?_eq_getElem hk] using hp
  unfold firstNot
  rw [if_neg]
  · congr 1
    rw [List.findIdx_eq hk]
    refine ⟨by simp [hp'], fun j hj => ?_⟩
    have := hb j (by omega)
    rw [List.getD_eq_getElem?_getD, List.getElem?_eq_getElem (by omega)] at this
    simpa using this
  · intro h
    rw [List.all_eq_true] at h
    have := h xs[k] (List.getElem_mem hk)
    rw [hp'] at this
    cases this
theorem firstNot_miss {α : Type} (p : α → Bool) (xs : List α) (z : α) (hb : ∀ j : Nat, (j : Int) < xs.length → p (xs.getD j z) = true) : firstNot p xs = -1 := by
  unfold firstNot
  rw [if_pos]
  rw [List.all_eq_true]
  intro x hx
  obtain ⟨j, hj, rfl⟩ := List.getElem_of_mem hx
  have := hb j (by omega)
  rwa [List.getD_eq_getElem?_getD, List.getElem?_eq_getElem hj] at this
theorem firstNot_geq {α : Type} (p : α → Bool) (xs : List α) : decide (0 ≤ firstNot p xs) = !xs.all p := by
  unfold firstNot
  cases h : xs.all p
  · simp
  · simp
theorem getD_mem {α : Type} {xs : List α} {z : α} {i : Int} (h0 : 0 ≤ i) (hi : i < xs.length) : xs.getD i.toNat z ∈ xs := by
  rw [List.getD_eq_getElem?_getD, List.getElem?_eq_getElem (by omega)]
  exact List.getElem_mem _


/-! ### element type 85 -/
set_option maxHeartbeats 1000000 in
theorem idx85 (B : Nat) (p : S85 → Bool) (A : Option Addr) (c : Nat) (xs : List S85) (w : World) (hr : Kd.C k85 w A xs.length xs) (hlen : xs.length ≤ 9223372036854775807)
    (hp : ∀ (W : World) (x : S85) , x ∈ xs → Below w.heap.size w W → Calls Try.prog 101 #[.agg #[.int .i64 x.f0, .int .i64 x.f1, .int .i64 x.f2, .int .i64 x.f3], .pointer (some ⟨B, 0, none⟩)] W fun e w' => e = .returned (.bool (!p x)) ∧ Below W.heap.size W w') :
    Calls Try.prog 111 #[.slice A xs.length c, .func (.func 101) #[] #[.pointer (some ⟨B, 0, none⟩)]] w fun e w' => e = .returned (.int .i64 (firstNot p xs)) ∧ Below w.heap.size w w' := by
  have HR := Aside0.mk hr
  have HP := Aside0.mk hp
  clear hr hp
  go_enter Try.func111, Try.ntmps111
  go_wp2
  go_loopg [5, 8] xs.length (fun gg _ s8 wr => ∃ i : Int, s8 = .int .i64 i ∧ 0 ≤ i ∧ i ≤ (xs.length : Int) ∧ (xs.length : Int) - i ≤ (gg : Int) ∧ Aside0 (Below w.heap.size w wr) ∧ Aside0 (∀ j : Nat, (j : Int) < i → p (xs.getD j z85) = true))
  case atStart => exact ⟨0, rfl, by omega, by omega, by omega, ⟨Below.refl _ w⟩, ⟨fun j hj => by omega⟩⟩
  case round =>
    obtain ⟨i, rfl, h0, h1, hg, BW, BA⟩ := hrel
    by_cases hlt : i < (xs.length : Int)
    · obtain ⟨ad, e0, x0, x1, x2, x3⟩ := at_T85 HR.out i h0 hlt
      cases e0
      replace x0 := (BW.out.cell (World.block_lt_of_cell? w _ x0)).trans x0
      replace x1 := (BW.out.cell (World.block_lt_of_cell? w _ x1)).trans x1
      replace x2 := (BW.out.cell (World.block_lt_of_cell? w _ x2)).trans x2
      replace x3 := (BW.out.cell (World.block_lt_of_cell? w _ x3)).trans x3
      have hcall := HP.out wr (rd_T85 xs i) (getD_mem h0 hlt) BW.out
      cases hq : p (rd_T85 xs i)
      · rw [hq] at hcall
        have HQ := Aside0.mk hq
        clear hq
        go_wp2_with (go_at_call 101; refine hcall.mono ?_; rintro e w' ⟨rfl, hb'⟩)
        go_ret
        exact ⟨ret_i64 (firstNot_hit p xs z85 i h0 hlt BA.out HQ.out).symm, below_then BW.out BW.out.size hb'⟩
      · rw [hq] at hcall
        have HQ := Aside0.mk hq
        clear hq
        go_wp2_with (go_at_call 101; refine hcall.mono ?_; rintro e w' ⟨rfl, hb'⟩)
        go_roundg (xs.length - (i + 1).toNat)
        case measure => omega
        case rel =>
          refine ⟨i + 1, by first | rfl | go_num, by omega, by omega, by omega, ⟨below_then BW.out BW.out.size hb'⟩, ⟨fun j hj => ?_⟩⟩
          by_cases e : (j : Int) = i
          · have := HQ.out
            rw [← e] at this
            simpa [rd_T85] using this
          · exact BA.out j (by omega)
    · have : i = (xs.length : Int) := by omega
      subst this
      go_wp2
      go_ret
      exact ⟨ret_i64 (firstNot_miss p xs z85 BA.out).symm, BW.out⟩

theorem cont85 (B : Nat) (p : S85 → Bool) (A : Option Addr) (c : Nat) (xs : List S85) (w : World) (hr : Kd.C k85 w A xs.length xs) (hlen : xs.length ≤ 9223372036854775807)
    (hp : ∀ (W : World) (x : S85) , x ∈ xs → Below w.heap.size w W → Calls Try.prog 101 #[.agg #[.int .i64 x.f0, .int .i64 x.f1, .int .i64 x.f2, .int .i64 x.f3], .pointer (some ⟨B, 0, none⟩)] W fun e w' => e = .returned (.bool (!p x)) ∧ Below W.heap.size W w') :
    Calls Try.prog 100 #[.slice A xs.length c, .func (.func 101) #[] #[.pointer (some ⟨B, 0, none⟩)]] w fun e w' => e = .returned (.bool (!xs.all p)) ∧ Below w.heap.size w w' := by
  have H := Aside0.mk (idx85 B p A c xs w hr hlen hp)
  have HG := Aside0.mk (firstNot_geq p xs)
  clear hr hp
  go_enter Try.func100, Try.ntmps100
  go_wp2_with (go_at_call 111; refine H.out.mono ?_; rintro e w' ⟨rfl, hb'⟩)
  go_ret
  exact ⟨ret_bool HG.out, hb'⟩

theorem clos85 (B g : Nat) (pre post : Array Value) (eg : ∀ args w, (callFunc g args).run Try.prog w = .ok (.enter g args) w) (b : Bool) (x : S85) (W : World) (hc : W.cell? ⟨B, 0, none⟩ = some (.func (.func g) pre post))
    (hp : ∀ W', Below W.heap.size W W' → Calls Try.prog g (pre.push (.agg #[.int .i64 x.f0, .int .i64 x.f1, .int .i64 x.f2, .int .i64 x.f3]) ++ post) W' fun e w' => e = .returned (.bool b) ∧ Below W'.heap.size W' w') :
    Calls Try.prog 101 #[.agg #[.int .i64 x.f0, .int .i64 x.f1, .int .i64 x.f2, .int .i64 x.f3], .pointer (some ⟨B, 0, none⟩)] W fun e w' => e = .returned (.bool (!b)) ∧ Below W.heap.size W w' := by
  have HP := Aside0.mk hp
  clear hp
  have hB : B < W.heap.size := World.block_lt_of_cell? W _ hc
  have hne : B ≠ W.heap.size := by omega
  have hb0 := below_alloc (Below.refl W.heap.size W) (.cells #[.int .i64 x.f0, .int .i64 x.f1, .int .i64 x.f2, .int .i64 x.f3] 85)
  go_enter Try.func101, Try.ntmps101
  go_wp2_with fail
  refine (HP.out _ hb0).mono ?_
  rintro e w' ⟨rfl, hb'⟩
  go_wp2
  go_ret
  exact ⟨rfl, below_then hb0 hb0.size hb'⟩

theorem all85 (g : Nat) (pre post : Array Value) (eg : ∀ args w, (callFunc g args).run Try.prog w = .ok (.enter g args) w) (p : S85 → Bool) (A : Option Addr) (c : Nat) (xs : List S85) (w : World) (hr : Kd.C k85 w A xs.length xs) (hlen : xs.length ≤ 9223372036854775807)
    (hp : ∀ (W : World) (x : S85) , x ∈ xs → Below w.heap.size w W → Calls Try.prog g (pre.push (.agg #[.int .i64 x.f0, .int .i64 x.f1, .int .i64 x.f2, .int .i64 x.f3]) ++ post) W fun e w' => e = .returned (.bool (p x)) ∧ Below W.heap.size W w') :
    Calls Try.prog 73 #[.slice A xs.length c, .func (.func g) pre post] w fun e w' => e = .returned (.bool (xs.all p)) ∧ Below w.heap.size w w' := by
  have hb1 := below_alloc (Below.refl w.heap.size w) (.cells #[.func (.func g) pre post] 122)
  have hcell : (w.alloc (.cells #[.func (.func g) pre post] 122)).cell? ⟨w.heap.size, 0, none⟩ = some (.func (.func g) pre post) := by simp
  have H := Aside0.mk (cont85 w.heap.size p A c xs (w.alloc (.cells #[.func (.func g) pre post] 122)) (Kd.C_below hr hb1) hlen (fun W x hx hW => by
    have hbW : Below w.heap.size w W := below_then hb1 hb1.size hW
    refine clos85 w.heap.size g pre post eg (p x) x W ((hW.cell (p := ⟨w.heap.size, 0, none⟩) (by simp)).trans hcell) fun W' hW' => ?_
    exact hp W' x hx (below_then hbW hbW.size hW')))
  clear hr hp hcell
  go_enter Try.func73, Try.ntmps73
  go_wp2_with (go_at_call 100; refine H.out.mono ?_; rintro e w' ⟨rfl, hb'⟩)
  go_ret
  exact ⟨rfl, below_then hb1 hb1.size hb'⟩

/-! ### element type 86 -/
set_option maxHeartbeats 1000000 in
theorem idx86 (B : Nat) (p : S86 → Bool) (A : Option Addr) (c : Nat) (xs : List S86) (w : World) (hr : Kd.C k86 w A xs.length xs) (hlen : xs.length ≤ 9223372036854775807)
    (hp : ∀ (W : World) (x : S86) , x ∈ xs → Below w.heap.size w W → Calls Try.prog 82 #[.agg #[.int .i64 x.f0, .int .i64 x.f1, .int .i64 x.f2, .int .i64 x.f3, .int .i64 x.f4, .int .i64 x.f5], .pointer (some ⟨B, 0, none⟩)] W fun e w' => e = .returned (.bool (!p x)) ∧ Below W.heap.size W w') :
    Calls Try.prog 107 #[.slice A xs.length c, .func (.func 82) #[] #[.pointer (some ⟨B, 0, none⟩)]] w fun e w' => e = .returned (.int .i64 (firstNot p xs)) ∧ Below w.heap.size w w' := by
  have HR := Aside0.mk hr
  have HP := Aside0.mk hp
  clear hr hp
  go_enter Try.func107, Try.ntmps107
  go_wp2
  go_loopg [5, 8] xs.length (fun gg _ s8 wr => ∃ i : Int, s8 = .int .i64 i ∧ 0 ≤ i ∧ i ≤ (xs.length : Int) ∧ (xs.length : Int) - i ≤ (gg : Int) ∧ Aside0 (Below w.heap.size w wr) ∧ Aside0 (∀ j : Nat, (j : Int) < i → p (xs.getD j z86) = true))
  case atStart => exact ⟨0, rfl, by omega, by omega, by omega, ⟨Below.refl _ w⟩, ⟨fun j hj => by omega⟩⟩
  case round =>
    obtain ⟨i, rfl, h0, h1, hg, BW, BA⟩ := hrel
    by_cases hlt : i < (xs.length : Int)
    · obtain ⟨ad, e0, x0, x1, x2, x3, x4, x5⟩ := at_T86 HR.out i h0 hlt
      cases e0
      replace x0 := (BW.out.cell (World.block_lt_of_cell? w _ x0)).trans x0
      replace x1 := (BW.out.cell (World.block_lt_of_cell? w _ x1)).trans x1
      replace x2 := (BW.out.cell (World.block_lt_of_cell? w _ x2)).trans x2
      replace x3 := (BW.out.cell (World.block_lt_of_cell? w _ x3)).trans x3
      replace x4 := (BW.out.cell (World.block_lt_of_cell? w _ x4)).trans x4
      replace x5 := (BW.out.cell (World.block_lt_of_cell? w _ x5)).trans x5
      have hcall := HP.out wr (rd_T86 xs i) (getD_mem h0 hlt) BW.out
      cases hq : p (rd_T86 xs i)
      · rw [hq] at hcall
        have HQ := Aside0.mk hq
        clear hq
        go_wp2_with (go_at_call 82; refine hcall.mono ?_; rintro e w' ⟨rfl, hb'⟩)
        go_ret
        exact ⟨ret_i64 (firstNot_hit p xs z86 i h0 hlt BA.out HQ.out).symm, below_then BW.out BW.out.size hb'⟩
      · rw [hq] at hcall
        have HQ := Aside0.mk hq
        clear hq
        go_wp2_with (go_at_call 82; refine hcall.mono ?_; rintro e w' ⟨rfl, hb'⟩)
        go_roundg (xs.length - (i + 1).toNat)
        case measure => omega
        case rel =>
          refine ⟨i + 1, by first | rfl | go_num, by omega, by omega, by omega, ⟨below_then BW.out BW.out.size hb'⟩, ⟨fun j hj => ?_⟩⟩
          by_cases e : (j : Int) = i
          · have := HQ.out
            rw [← e] at this
            simpa [rd_T86] using this
          · exact BA.out j (by omega)
    · have : i = (xs.length : Int) := by omega
      subst this
      go_wp2
      go_ret
      exact ⟨ret_i64 (firstNot_miss p xs z86 BA.out).symm, BW.out⟩

theorem cont86 (B : Nat) (p : S86 → Bool) (A : Option Addr) (c : Nat) (xs : List S86) (w : World) (hr : Kd.C k86 w A xs.length xs) (hlen : xs.length ≤ 9223372036854775807)
    (hp : ∀ (W : World) (x : S86) , x ∈ xs → Below w.heap.size w W → Calls Try.prog 82 #[.agg #[.int .i64 x.f0, .int .i64 x.f1, .int .i64 x.f2, .int .i64 x.f3, .int .i64 x.f4, .int .i64 x.f5], .pointer (some ⟨B, 0, none⟩)] W fun e w' => e = .returned (.bool (!p x)) ∧ Below W.heap.size W w') :
    Calls Try.prog 81 #[.slice A xs.length c, .func (.func 82) #[] #[.pointer (some ⟨B, 0, none⟩)]] w fun e w' => e = .returned (.bool (!xs.all p)) ∧ Below w.heap.size w w' := by
  have H := Aside0.mk (idx86 B p A c xs w hr hlen hp)
  have HG := Aside0.mk (firstNot_geq p xs)
  clear hr hp
  go_enter Try.func81, Try.ntmps81
  go_wp2_with (go_at_call 107; refine H.out.mono ?_; rintro e w' ⟨rfl, hb'⟩)
  go_ret
  exact ⟨ret_bool HG.out, hb'⟩

theorem clos86 (B g : Nat) (pre post : Array Value) (eg : ∀ args w, (callFunc g args).run Try.prog w = .ok (.enter g args) w) (b : Bool) (x : S86) (W : World) (hc : W.cell? ⟨B, 0, none⟩ = some (.func (.func g) pre post))
    (hp : ∀ W', Below W.heap.size W W' → Calls Try.prog g (pre.push (.agg #[.int .i64 x.f0, .int .i64 x.f1, .int .i64 x.f2, .int .i64 x.f3, .int .i64 x.f4, .int .i64 x.f5]) ++ post) W' fun e w' => e = .returned (.bool b) ∧ Below W'.heap.size W' w') :
    Calls Try.prog 82 #[.agg #[.int .i64 x.f0, .int .i64 x.f1, .int .i64 x.f2, .int .i64 x.f3, .int .i64 x.f4, .int .i64 x.f5], .pointer (some ⟨B, 0, none⟩)] W fun e w' => e = .returned (.bool (!b)) ∧ Below W.heap.size W w' := by
  have HP := Aside0.mk hp
  clear hp
  have hB : B < W.heap.size := World.block_lt_of_cell? W _ hc
  have hne : B ≠ W.heap.size := by omega
  have hb0 := below_alloc (Below.refl W.heap.size W) (.cells #[.int .i64 x.f0, .int .i64 x.f1, .int .i64 x.f2, .int .i64 x.f3, .int .i64 x.f4, .int .i64 x.f5] 86)
  go_enter Try.func82, Try.ntmps82
  go_wp2_with fail
  refine (HP.out _ hb0).mono ?_
  rintro e w' ⟨rfl, hb'⟩
  go_wp2
  go_ret
  exact ⟨rfl, below_then hb0 hb0.size hb'⟩

theorem all86 (g : Nat) (pre post : Array Value) (eg : ∀ args w, (callFunc g args).run Try.prog w = .ok (.enter g args) w) (p : S86 → Bool) (A : Option Addr) (c : Nat) (xs : List S86) (w : World) (hr : Kd.C k86 w A xs.length xs) (hlen : xs.length ≤ 9223372036854775807)
    (hp : ∀ (W : World) (x : S86) , x ∈ xs → Below w.heap.size w W → Calls Try.prog g (pre.push (.agg #[.int .i64 x.f0, .int .i64 x.f1, .int .i64 x.f2, .int .i64 x.f3, .int .i64 x.f4, .int .i64 x.f5]) ++ post) W fun e w' => e = .returned (.bool (p x)) ∧ Below W.heap.size W w') :
    Calls Try.prog 54 #[.slice A xs.length c, .func (.func g) pre post] w fun e w' => e = .returned (.bool (xs.all p)) ∧ Below w.heap.size w w' := by
  have hb1 := below_alloc (Below.refl w.heap.size w) (.cells #[.func (.func g) pre post] 105)
  have hcell : (w.alloc (.cells #[.func (.func g) pre post] 105)).cell? ⟨w.heap.size, 0, none⟩ = some (.func (.func g) pre post) := by simp
  have H := Aside0.mk (cont86 w.heap.size p A c xs (w.alloc (.cells #[.func (.func g) pre post] 105)) (Kd.C_below hr hb1) hlen (fun W x hx hW => by
    have hbW : Below w.heap.size w W := below_then hb1 hb1.size hW
    refine clos86 w.heap.size g pre post eg (p x) x W ((hW.cell (p := ⟨w.heap.size, 0, none⟩) (by simp)).trans hcell) fun W' hW' => ?_
    exact hp W' x hx (below_then hbW hbW.size hW')))
  clear hr hp hcell
  go_enter Try.func54, Try.ntmps54
  go_wp2_with (go_at_call 81; refine H.out.mono ?_; rintro e w' ⟨rfl, hb'⟩)
  go_ret
  exact ⟨rfl, below_then hb1 hb1.size hb'⟩

/-! ### element type 88 -/
set_option maxHeartbeats 1000000 in
theorem idx88 (B : Nat) (p : S88 → Bool) (A : Option Addr) (c : Nat) (xs : List S88) (w : World) (hr : Kd.C k88 w A xs.length xs) (hlen : xs.length ≤ 9223372036854775807)
    (hp : ∀ (W : World) (x : S88) , x ∈ xs → Below w.heap.size w W → Calls Try.prog 97 #[.agg #[.int .i64 x.f0.f0, .int .i64 x.f0.f1, .int .i64 x.f0.f2, .int .i64 x.f0.f3, .int .i64 x.f0.f4, .int .i64 x.f0.f5, .int .i64 x.f1, .int .i64 x.f2], .pointer (some ⟨B, 0, none⟩)] W fun e w' => e = .returned (.bool (!p x)) ∧ Below W.heap.size W w') :
    Calls Try.prog 109 #[.slice A xs.length c, .func (.func 97) #[] #[.pointer (some ⟨B, 0, none⟩)]] w fun e w' => e = .returned (.int .i64 (firstNot p xs)) ∧ Below w.heap.size w w' := by
  have HR := Aside0.mk hr
  have HP := Aside0.mk hp
  clear hr hp
  go_enter Try.func109, Try.ntmps109
  go_wp2
  go_loopg [5, 8] xs.length (fun gg _ s8 wr => ∃ i : Int, s8 = .int .i64 i ∧ 0 ≤ i ∧ i ≤ (xs.length : Int) ∧ (xs.length : Int) - i ≤ (gg : Int) ∧ Aside0 (Below w.heap.size w wr) ∧ Aside0 (∀ j : Nat, (j : Int) < i → p (xs.getD j z88) = true))
  case atStart => exact ⟨0, rfl, by omega, by omega, by omega, ⟨Below.refl _ w⟩, ⟨fun j hj => by omega⟩⟩
  case round =>
    obtain ⟨i, rfl, h0, h1, hg, BW, BA⟩ := hrel
    by_cases hlt : i < (xs.length : Int)
    · obtain ⟨ad, e0, x0, x1, x2, x3, x4, x5, x6, x7⟩ := at_T88 HR.out i h0 hlt
      cases e0
      replace x0 := (BW.out.cell (World.block_lt_of_cell? w _ x0)).trans x0
      replace x1 := (BW.out.cell (World.block_lt_of_cell? w _ x1)).trans x1
      replace x2 := (BW.out.cell (World.block_lt_of_cell? w _ x2)).trans x2
      replace x3 := (BW.out.cell (World.block_lt_of_cell? w _ x3)).trans x3
      replace x4 := (BW.out.cell (World.block_lt_of_cell? w _ x4)).trans x4
      replace x5 := (BW.out.cell (World.block_lt_of_cell? w _ x5)).trans x5
      replace x6 := (BW.out.cell (World.block_lt_of_cell? w _ x6)).trans x6
      replace x7 := (BW.out.cell (World.block_lt_of_cell? w _ x7)).trans x7
      have hcall := HP.out wr (rd_T88 xs i) (getD_mem h0 hlt) BW.out
      cases hq : p (rd_T88 xs i)
      · rw [hq] at hcall
        have HQ := Aside0.mk hq
        clear hq
        go_wp2_with (go_at_call 97; refine hcall.mono ?_; rintro e w' ⟨rfl, hb'⟩)
        go_ret
        exact ⟨ret_i64 (firstNot_hit p xs z88 i h0 hlt BA.out HQ.out).symm, below_then BW.out BW.out.size hb'⟩
      · rw [hq] at hcall
        have HQ := Aside0.mk hq
        clear hq
        go_wp2_with (go_at_call 97; refine hcall.mono ?_; rintro e w' ⟨rfl, hb'⟩)
        go_roundg (xs.length - (i + 1).toNat)
        case measure => omega
        case rel =>
          refine ⟨i + 1, by first | rfl | go_num, by omega, by omega, by omega, ⟨below_then BW.out BW.out.size hb'⟩, ⟨fun j hj => ?_⟩⟩
          by_cases e : (j : Int) = i
          · have := HQ.out
            rw [← e] at this
            simpa [rd_T88] using this
          · exact BA.out j (by omega)
    · have : i = (xs.length : Int) := by omega
      subst this
      go_wp2
      go_ret
      exact ⟨ret_i64 (firstNot_miss p xs z88 BA.out).symm, BW.out⟩

theorem cont88 (B : Nat) (p : S88 → Bool) (A : Option Addr) (c : Nat) (xs : List S88) (w : World) (hr : Kd.C k88 w A xs.length xs) (hlen : xs.length ≤ 9223372036854775807)
    (hp : ∀ (W : World) (x : S88) , x ∈ xs → Below w.heap.size w W → Calls Try.prog 97 #[.agg #[.int .i64 x.f0.f0, .int .i64 x.f0.f1, .int .i64 x.f0.f2, .int .i64 x.f0.f3, .int .i64 x.f0.f4, .int .i64 x.f0.f5, .int .i64 x.f1, .int .i64 x.f2], .pointer (some ⟨B, 0, none⟩)] W fun e w' => e = .returned (.bool (!p x)) ∧ Below W.heap.size W w') :
    Calls Try.prog 96 #[.slice A xs.length c, .func (.func 97) #[] #[.pointer (some ⟨B, 0, none⟩)]] w fun e w' => e = .returned (.bool (!xs.all p)) ∧ Below w.heap.size w w' := by
  have H := Aside0.mk (idx88 B p A c xs w hr hlen hp)
  have HG := Aside0.mk (firstNot_geq p xs)
  clear hr hp
  go_enter Try.func96, Try.ntmps96
  go_wp2_with (go_at_call 109; refine H.out.mono ?_; rintro e w' ⟨rfl, hb'⟩)
  go_ret
  exact ⟨ret_bool HG.out, hb'⟩

theorem clos88 (B g : Nat) (pre post : Array Value) (eg : ∀ args w, (callFunc g args).run Try.prog w = .ok (.enter g args) w) (b : Bool) (x : S88) (W : World) (hc : W.cell? ⟨B, 0, none⟩ = some (.func (.func g) pre post))
    (hp : ∀ W', Below W.heap.size W W' → Calls Try.prog g (pre.push (.agg #[.int .i64 x.f0.f0, .int .i64 x.f0.f1, .int .i64 x.f0.f2, .int .i64 x.f0.f3, .int .i64 x.f0.f4, .int .i64 x.f0.f5, .int .i64 x.f1, .int .i64 x.f2]) ++ post) W' fun e w' => e = .returned (.bool b) ∧ Below W'.heap.size W' w') :
    Calls Try.prog 97 #[.agg #[.int .i64 x.f0.f0, .int .i64 x.f0.f1, .int .i64 x.f0.f2, .int .i64 x.f0.f3, .int .i64 x.f0.f4, .int .i64 x.f0.f5, .int .i64 x.f1, .int .i64 x.f2], .pointer (some ⟨B, 0, none⟩)] W fun e w' => e = .returned (.bool (!b)) ∧ Below W.heap.size W w' := by
  have HP := Aside0.mk hp
  clear hp
  have hB : B < W.heap.size := World.block_lt_of_cell? W _ hc
  have hne : B ≠ W.heap.size := by omega
  have hb0 := below_alloc (Below.refl W.heap.size W) (.cells #[.int .i64 x.f0.f0, .int .i64 x.f0.f1, .int .i64 x.f0.f2, .int .i64 x.f0.f3, .int .i64 x.f0.f4, .int .i64 x.f0.f5, .int .i64 x.f1, .int .i64 x.f2] 88)
  go_enter Try.func97, Try.ntmps97
  go_wp2_with fail
  refine (HP.out _ hb0).mono ?_
  rintro e w' ⟨rfl, hb'⟩
  go_wp2
  go_ret
  exact ⟨rfl, below_then hb0 hb0.size hb'⟩

theorem all88 (g : Nat) (pre post : Array Value) (eg : ∀ args w, (callFunc g args).run Try.prog w = .ok (.enter g args) w) (p : S88 → Bool) (A : Option Addr) (c : Nat) (xs : List S88) (w : World) (hr : Kd.C k88 w A xs.length xs) (hlen : xs.length ≤ 9223372036854775807)
    (hp : ∀ (W : World) (x : S88) , x ∈ xs → Below w.heap.size w W → Calls Try.prog g (pre.push (.agg #[.int .i64 x.f0.f0, .int .i64 x.f0.f1, .int .i64 x.f0.f2, .int .i64 x.f0.f3, .int .i64 x.f0.f4, .int .i64 x.f0.f5, .int .i64 x.f1, .int .i64 x.f2]) ++ post) W fun e w' => e = .returned (.bool (p x)) ∧ Below W.heap.size W w') :
    Calls Try.prog 71 #[.slice A xs.length c, .func (.func g) pre post] w fun e w' => e = .returned (.bool (xs.all p)) ∧ Below w.heap.size w w' := by
  have hb1 := below_alloc (Below.refl w.heap.size w) (.cells #[.func (.func g) pre post] 117)
  have hcell : (w.alloc (.cells #[.func (.func g) pre post] 117)).cell? ⟨w.heap.size, 0, none⟩ = some (.func (.func g) pre post) := by simp
  have H := Aside0.mk (cont88 w.heap.size p A c xs (w.alloc (.cells #[.func (.func g) pre post] 117)) (Kd.C_below hr hb1) hlen (fun W x hx hW => by
    have hbW : Below w.heap.size w W := below_then hb1 hb1.size hW
    refine clos88 w.heap.size g pre post eg (p x) x W ((hW.cell (p := ⟨w.heap.size, 0, none⟩) (by simp)).trans hcell) fun W' hW' => ?_
    exact hp W' x hx (below_then hbW hbW.size hW')))
  clear hr hp hcell
  go_enter Try.func71, Try.ntmps71
  go_wp2_with (go_at_call 96; refine H.out.mono ?_; rintro e w' ⟨rfl, hb'⟩)
  go_ret
  exact ⟨rfl, below_then hb1 hb1.size hb'⟩

/-! ### element type 99 -/
set_option maxHeartbeats 1000000 in
theorem idx99 (B : Nat) (p : S99 → Bool) (A : Option Addr) (c : Nat) (xs : List S99) (w : World) (hr : Kd.C k99 w A xs.length xs) (hlen : xs.length ≤ 9223372036854775807)
    (hp : ∀ (W : World) (x : S99) , x ∈ xs → Below w.heap.size w W → Calls Try.prog 104 #[.agg #[.int .i64 x.f0, .int .i64 x.f1, .int .i64 x.f2], .pointer (some ⟨B, 0, none⟩)] W fun e w' => e = .returned (.bool (!p x)) ∧ Below W.heap.size W w') :
    Calls Try.prog 112 #[.slice A xs.length c, .func (.func 104) #[] #[.pointer (some ⟨B, 0, none⟩)]] w fun e w' => e = .returned (.int .i64 (firstNot p xs)) ∧ Below w.heap.size w w' := by
  have HR := Aside0.mk hr
  have HP := Aside0.mk hp
  clear hr hp
  go_enter Try.func112, Try.ntmps112
  go_wp2
  go_loopg [5, 8] xs.length (fun gg _ s8 wr => ∃ i : Int, s8 = .int .i64 i ∧ 0 ≤ i ∧ i ≤ (xs.length : Int) ∧ (xs.length : Int) - i ≤ (gg : Int) ∧ Aside0 (Below w.heap.size w wr) ∧ Aside0 (∀ j : Nat, (j : Int) < i → p (xs.getD j z99) = true))
  case atStart => exact ⟨0, rfl, by omega, by omega, by omega, ⟨Below.refl _ w⟩, ⟨fun j hj => by omega⟩⟩
  case round =>
    obtain ⟨i, rfl, h0, h1, hg, BW, BA⟩ := hrel
    by_cases hlt : i < (xs.length : Int)
    · obtain ⟨ad, e0, x0, x1, x2⟩ := at_T99 HR.out i h0 hlt
      cases e0
      replace x0 := (BW.out.cell (World.block_lt_of_cell? w _ x0)).trans x0
      replace x1 := (BW.out.cell (World.block_lt_of_cell? w _ x1)).trans x1
      replace x2 := (BW.out.cell (World.block_lt_of_cell? w _ x2)).trans x2
      have hcall := HP.out wr (rd_T99 xs i) (getD_mem h0 hlt) BW.out
      cases hq : p (rd_T99 xs i)
      · rw [hq] at hcall
        have HQ := Aside0.mk hq
        clear hq
        go_wp2_with (go_at_call 104; refine hcall.mono ?_; rintro e w' ⟨rfl, hb'⟩)
        go_ret
        exact ⟨ret_i64 (firstNot_hit p xs z99 i h0 hlt BA.out HQ.out).symm, below_then BW.out BW.out.size hb'⟩
      · rw [hq] at hcall
        have HQ := Aside0.mk hq
        clear hq
        go_wp2_with (go_at_call 104; refine hcall.mono ?_; rintro e w' ⟨rfl, hb'⟩)
        go_roundg (xs.length - (i + 1).toNat)
        case measure => omega
        case rel =>
          refine ⟨i + 1, by first | rfl | go_num, by omega, by omega, by omega, ⟨below_then BW.out BW.out.size hb'⟩, ⟨fun j hj => ?_⟩⟩
          by_cases e : (j : Int) = i
          · have := HQ.out
            rw [← e] at this
            simpa [rd_T99] using this
          · exact BA.out j (by omega)
    · have : i = (xs.length : Int) := by omega
      subst this
      go_wp2
      go_ret
      exact ⟨ret_i64 (firstNot_miss p xs z99 BA.out).symm, BW.out⟩

theorem cont99 (B : Nat) (p : S99 → Bool) (A : Option Addr) (c : Nat) (xs : List S99) (w : World) (hr : Kd.C k99 w A xs.length xs) (hlen : xs.length ≤ 9223372036854775807)
    (hp : ∀ (W : World) (x : S99) , x ∈ xs → Below w.heap.size w W → Calls Try.prog 104 #[.agg #[.int .i64 x.f0, .int .i64 x.f1, .int .i64 x.f2], .pointer (some ⟨B, 0, none⟩)] W fun e w' => e = .returned (.bool (!p x)) ∧ Below W.heap.size W w') :
    Calls Try.prog 103 #[.slice A xs.length c, .func (.func 104) #[] #[.pointer (some ⟨B, 0, none⟩)]] w fun e w' => e = .returned (.bool (!xs.all p)) ∧ Below w.heap.size w w' := by
  have H := Aside0.mk (idx99 B p A c xs w hr hlen hp)
  have HG := Aside0.mk (firstNot_geq p xs)
  clear hr hp
  go_enter Try.func103, Try.ntmps103
  go_wp2_with (go_at_call 112; refine H.out.mono ?_; rintro e w' ⟨rfl, hb'⟩)
  go_ret
  exact ⟨ret_bool HG.out, hb'⟩

theorem clos99 (B g : Nat) (pre post : Array Value) (eg : ∀ args w, (callFunc g args).run Try.prog w = .ok (.enter g args) w) (b : Bool) (x : S99) (W : World) (hc : W.cell? ⟨B, 0, none⟩ = some (.func (.func g) pre post))
    (hp : ∀ W', Below W.heap.size W W' → Calls Try.prog g (pre.push (.agg #[.int .i64 x.f0, .int .i64 x.f1, .int .i64 x.f2]) ++ post) W' fun e w' => e = .returned (.bool b) ∧ Below W'.heap.size W' w') :
    Calls Try.prog 104 #[.agg #[.int .i64 x.f0, .int .i64 x.f1, .int .i64 x.f2], .pointer (some ⟨B, 0, none⟩)] W fun e w' => e = .returned (.bool (!b)) ∧ Below W.heap.size W w' := by
  have HP := Aside0.mk hp
  clear hp
  have hB : B < W.heap.size := World.block_lt_of_cell? W _ hc
  have hne : B ≠ W.heap.size := by omega
  have hb0 := below_alloc (Below.refl W.heap.size W) (.cells #[.int .i64 x.f0, .int .i64 x.f1, .int .i64 x.f2] 99)
  go_enter Try.func104, Try.ntmps104
  go_wp2_with fail
  refine (HP.out _ hb0).mono ?_
  rintro e w' ⟨rfl, hb'⟩
  go_wp2
  go_ret
  exact ⟨rfl, below_then hb0 hb0.size hb'⟩

theorem all99 (g : Nat) (pre post : Array Value) (eg : ∀ args w, (callFunc g args).run Try.prog w = .ok (.enter g args) w) (p : S99 → Bool) (A : Option Addr) (c : Nat) (xs : List S99) (w : World) (hr : Kd.C k99 w A xs.length xs) (hlen : xs.length ≤ 9223372036854775807)
    (hp : ∀ (W : World) (x : S99) , x ∈ xs → Below w.heap.size w W → Calls Try.prog g (pre.push (.agg #[.int .i64 x.f0, .int .i64 x.f1, .int .i64 x.f2]) ++ post) W fun e w' => e = .returned (.bool (p x)) ∧ Below W.heap.size W w') :
    Calls Try.prog 77 #[.slice A xs.length c, .func (.func g) pre post] w fun e w' => e = .returned (.bool (xs.all p)) ∧ Below w.heap.size w w' := by
  have hb1 := below_alloc (Below.refl w.heap.size w) (.cells #[.func (.func g) pre post] 124)
  have hcell : (w.alloc (.cells #[.func (.func g) pre post] 124)).cell? ⟨w.heap.size, 0, none⟩ = some (.func (.func g) pre post) := by simp
  have H := Aside0.mk (cont99 w.heap.size p A c xs (w.alloc (.cells #[.func (.func g) pre post] 124)) (Kd.C_below hr hb1) hlen (fun W x hx hW => by
    have hbW : Below w.heap.size w W := below_then hb1 hb1.size hW
    refine clos99 w.heap.size g pre post eg (p x) x W ((hW.cell (p := ⟨w.heap.size, 0, none⟩) (by simp)).trans hcell) fun W' hW' => ?_
    exact hp W' x hx (below_then hbW hbW.size hW')))
  clear hr hp hcell
  go_enter Try.func77, Try.ntmps77
  go_wp2_with (go_at_call 103; refine H.out.mono ?_; rintro e w' ⟨rfl, hb'⟩)
  go_ret
  exact ⟨rfl, below_then hb1 hb1.size hb'⟩

/-! ### element type 3 -/
set_option maxHeartbeats 1000000 in
theorem idx3 (B : Nat) (p : Int → Bool) (A : Option Addr) (c : Nat) (xs : List Int) (w : World) (hr : Kd.C (Kd.int .i64) w A xs.length xs) (hlen : xs.length ≤ 9223372036854775807)
    (hp : ∀ (W : World) (x : Int) , x ∈ xs → Below w.heap.size w W → Calls Try.prog 114 #[.int .i64 x, .pointer (some ⟨B, 0, none⟩)] W fun e w' => e = .returned (.bool (!p x)) ∧ Below W.heap.size W w') :
    Calls Try.prog 115 #[.slice A xs.length c, .func (.func 114) #[] #[.pointer (some ⟨B, 0, none⟩)]] w fun e w' => e = .returned (.int .i64 (firstNot p xs)) ∧ Below w.heap.size w w' := by
  have HR := Aside0.mk hr
  have HP := Aside0.mk hp
  clear hr hp
  go_enter Try.func115, Try.ntmps115
  go_wp2
  go_loopg [5, 8] xs.length (fun gg _ s8 wr => ∃ i : Int, s8 = .int .i64 i ∧ 0 ≤ i ∧ i ≤ (xs.length : Int) ∧ (xs.length : Int) - i ≤ (gg : Int) ∧ Aside0 (Below w.heap.size w wr) ∧ Aside0 (∀ j : Nat, (j : Int) < i → p (xs.getD j 0) = true))
  case atStart => exact ⟨0, rfl, by omega, by omega, by omega, ⟨Below.refl _ w⟩, ⟨fun j hj => by omega⟩⟩
  case round =>
    obtain ⟨i, rfl, h0, h1, hg, BW, BA⟩ := hrel
    by_cases hlt : i < (xs.length : Int)
    · obtain ⟨ad, e0, x0⟩ := Kd.at_int HR.out i h0 hlt
      cases e0
      replace x0 := (BW.out.cell (World.block_lt_of_cell? w _ x0)).trans x0
      have hcall := HP.out wr (rd xs i) (getD_mem h0 hlt) BW.out
      cases hq : p (rd xs i)
      · rw [hq] at hcall
        have HQ := Aside0.mk hq
        clear hq
        go_wp2_with (go_at_call 114; refine hcall.mono ?_; rintro e w' ⟨rfl, hb'⟩)
        go_ret
        exact ⟨ret_i64 (firstNot_hit p xs 0 i h0 hlt BA.out HQ.out).symm, below_then BW.out BW.out.size hb'⟩
      · rw [hq] at hcall
        have HQ := Aside0.mk hq
        clear hq
        go_wp2_with (go_at_call 114; refine hcall.mono ?_; rintro e w' ⟨rfl, hb'⟩)
        go_roundg (xs.length - (i + 1).toNat)
        case measure => omega
        case rel =>
          refine ⟨i + 1, by first | rfl | go_num, by omega, by omega, by omega, ⟨below_then BW.out BW.out.size hb'⟩, ⟨fun j hj => ?_⟩⟩
          by_cases e : (j : Int) = i
          · have := HQ.out
            rw [← e] at this
            simpa [rd] using this
          · exact BA.out j (by omega)
    · have : i = (xs.length : Int) := by omega
      subst this
      go_wp2
      go_ret
      exact ⟨ret_i64 (firstNot_miss p xs 0 BA.out).symm, BW.out⟩

theorem cont3 (B : Nat) (p : Int → Bool) (A : Option Addr) (c : Nat) (xs : List Int) (w : World) (hr : Kd.C (Kd.int .i64) w A xs.length xs) (hlen : xs.length ≤ 9223372036854775807)
    (hp : ∀ (W : World) (x : Int) , x ∈ xs → Below w.heap.size w W → Calls Try.prog 114 #[.int .i64 x, .pointer (some ⟨B, 0, none⟩)] W fun e w' => e = .returned (.bool (!p x)) ∧ Below W.heap.size W w') :
    Calls Try.prog 113 #[.slice A xs.length c, .func (.func 114) #[] #[.pointer (some ⟨B, 0, none⟩)]] w fun e w' => e = .returned (.bool (!xs.all p)) ∧ Below w.heap.size w w' := by
  have H := Aside0.mk (idx3 B p A c xs w hr hlen hp)
  have HG := Aside0.mk (firstNot_geq p xs)
  clear hr hp
  go_enter Try.func113, Try.ntmps113
  go_wp2_with (go_at_call 115; refine H.out.mono ?_; rintro e w' ⟨rfl, hb'⟩)
  go_ret
  exact ⟨ret_bool HG.out, hb'⟩

theorem clos3 (B g : Nat) (pre post : Array Value) (eg : ∀ args w, (callFunc g args).run Try.prog w = .ok (.enter g args) w) (b : Bool) (x : Int) (W : World) (hc : W.cell? ⟨B, 0, none⟩ = some (.func (.func g) pre post))
    (hp : ∀ W', Below W.heap.size W W' → Calls Try.prog g (pre.push (.int .i64 x) ++ post) W' fun e w' => e = .returned (.bool b) ∧ Below W'.heap.size W' w') :
    Calls Try.prog 114 #[.int .i64 x, .pointer (some ⟨B, 0, none⟩)] W fun e w' => e = .returned (.bool (!b)) ∧ Below W.heap.size W w' := by
  have HP := Aside0.mk hp
  clear hp
  have hB : B < W.heap.size := World.block_lt_of_cell? W _ hc
  have hne : B ≠ W.heap.size := by omega
  have hb0 := Below.refl W.heap.size W
  go_enter Try.func114, Try.ntmps114
  go_wp2_with fail
  refine (HP.out _ hb0).mono ?_
  rintro e w' ⟨rfl, hb'⟩
  go_wp2
  go_ret
  exact ⟨rfl, below_then hb0 hb0.size hb'⟩

theorem all3 (g : Nat) (pre post : Array Value) (eg : ∀ args w, (callFunc g args).run Try.prog w = .ok (.enter g args) w) (p : Int → Bool) (A : Option Addr) (c : Nat) (xs : List Int) (w : World) (hr : Kd.C (Kd.int .i64) w A xs.length xs) (hlen : xs.length ≤ 9223372036854775807)
    (hp : ∀ (W : World) (x : Int) , x ∈ xs → Below w.heap.size w W → Calls Try.prog g (pre.push (.int .i64 x) ++ post) W fun e w' => e = .returned (.bool (p x)) ∧ Below W.heap.size W w') :
    Calls Try.prog 105 #[.slice A xs.length c, .func (.func g) pre post] w fun e w' => e = .returned (.bool (xs.all p)) ∧ Below w.heap.size w w' := by
  have hb1 := below_alloc (Below.refl w.heap.size w) (.cells #[.func (.func g) pre post] 106)
  have hcell : (w.alloc (.cells #[.func (.func g) pre post] 106)).cell? ⟨w.heap.size, 0, none⟩ = some (.func (.func g) pre post) := by simp
  have H := Aside0.mk (cont3 w.heap.size p A c xs (w.alloc (.cells #[.func (.func g) pre post] 106)) (Kd.C_below hr hb1) hlen (fun W x hx hW => by
    have hbW : Below w.heap.size w W := below_then hb1 hb1.size hW
    refine clos3 w.heap.size g pre post eg (p x) x W ((hW.cell (p := ⟨w.heap.size, 0, none⟩) (by simp)).trans hcell) fun W' hW' => ?_
    exact hp W' x hx (below_then hbW hbW.size hW')))
  clear hr hp hcell
  go_enter Try.func105, Try.ntmps105
  go_wp2_with (go_at_call 113; refine H.out.mono ?_; rintro e w' ⟨rfl, hb'⟩)
  go_ret
  exact ⟨rfl, below_then hb1 hb1.size hb'⟩

/-! ### element type 89 -/
set_option maxHeartbeats 1000000 in
theorem idx89 (B : Nat) (p : (List S88) → Bool) (A : Option Addr) (c : Nat) (xs : List (List S88)) (w : World) (hr : Kd.C (Kd.slice 88 k88) w A xs.length xs) (hlen : xs.length ≤ 9223372036854775807)
    (hp : ∀ (W : World) (x : (List S88)) (A0 : Option Addr) (c0 : Nat) , x ∈ xs → x.length ≤ c0 → k88.C W A0 x.length x → Below w.heap.size w W → Calls Try.prog 99 #[.slice A0 x.length c0, .pointer (some ⟨B, 0, none⟩)] W fun e w' => e = .returned (.bool (!p x)) ∧ Below W.heap.size W w') :
    Calls Try.prog 110 #[.slice A xs.length c, .func (.func 99) #[] #[.pointer (some ⟨B, 0, none⟩)]] w fun e w' => e = .returned (.int .i64 (firstNot p xs)) ∧ Below w.heap.size w w' := by
  have HR := Aside0.mk hr
  have HP := Aside0.mk hp
  clear hr hp
  go_enter Try.func110, Try.ntmps110
  go_wp2
  go_loopg [5, 8] xs.length (fun gg _ s8 wr => ∃ i : Int, s8 = .int .i64 i ∧ 0 ≤ i ∧ i ≤ (xs.length : Int) ∧ (xs.length : Int) - i ≤ (gg : Int) ∧ Aside0 (Below w.heap.size w wr) ∧ Aside0 (∀ j : Nat, (j : Int) < i → p (xs.getD j ([] : List S88)) = true))
  case atStart => exact ⟨0, rfl, by omega, by omega, by omega, ⟨Below.refl _ w⟩, ⟨fun j hj => by omega⟩⟩
  case round =>
    obtain ⟨i, rfl, h0, h1, hg, BW, BA⟩ := hrel
    by_cases hlt : i < (xs.length : Int)
    · obtain ⟨ad, A0, c0, e0, x0, hc0, hk0⟩ := at_L9 HR.out i h0 hlt
      cases e0
      replace x0 := (BW.out.cell (World.block_lt_of_cell? w _ x0)).trans x0
      have hcall := HP.out wr (rd_L9 xs i) A0 c0 (getD_mem h0 hlt) hc0 (Kd.C_below hk0 BW.out) BW.out
      clear hc0 hk0
      cases hq : p (rd_L9 xs i)
      · rw [hq] at hcall
        have HQ := Aside0.mk hq
        clear hq
        go_wp2_with (go_at_call 99; refine hcall.mono ?_; rintro e w' ⟨rfl, hb'⟩)
        go_ret
        exact ⟨ret_i64 (firstNot_hit p xs ([] : List S88) i h0 hlt BA.out HQ.out).symm, below_then BW.out BW.out.size hb'⟩
      · rw [hq] at hcall
        have HQ := Aside0.mk hq
        clear hq
        go_wp2_with (go_at_call 99; refine hcall.mono ?_; rintro e w' ⟨rfl, hb'⟩)
        go_roundg (xs.length - (i + 1).toNat)
        case measure => omega
        case rel =>
          refine ⟨i + 1, by first | rfl | go_num, by omega, by omega, by omega, ⟨below_then BW.out BW.out.size hb'⟩, ⟨fun j hj => ?_⟩⟩
          by_cases e : (j : Int) = i
          · have := HQ.out
            rw [← e] at this
            simpa [rd_L9] using this
          · exact BA.out j (by omega)
    · have : i = (xs.length : Int) := by omega
      subst this
      go_wp2
      go_ret
      exact ⟨ret_i64 (firstNot_miss p xs ([] : List S88) BA.out).symm, BW.out⟩

theorem cont89 (B : Nat) (p : (List S88) → Bool) (A : Option Addr) (c : Nat) (xs : List (List S88)) (w : World) (hr : Kd.C (Kd.slice 88 k88) w A xs.length xs) (hlen : xs.length ≤ 9223372036854775807)
    (hp : ∀ (W : World) (x : (List S88)) (A0 : Option Addr) (c0 : Nat) , x ∈ xs → x.length ≤ c0 → k88.C W A0 x.length x → Below w.heap.size w W → Calls Try.prog 99 #[.slice A0 x.length c0, .pointer (some ⟨B, 0, none⟩)] W fun e w' => e = .returned (.bool (!p x)) ∧ Below W.heap.size W w') :
    Calls Try.prog 98 #[.slice A xs.length c, .func (.func 99) #[] #[.pointer (some ⟨B, 0, none⟩)]] w fun e w' => e = .returned (.bool (!xs.all p)) ∧ Below w.heap.size w w' := by
  have H := Aside0.mk (idx89 B p A c xs w hr hlen hp)
  have HG := Aside0.mk (firstNot_geq p xs)
  clear hr hp
  go_enter Try.func98, Try.ntmps98
  go_wp2_with (go_at_call 110; refine H.out.mono ?_; rintro e w' ⟨rfl, hb'⟩)
  go_ret
  exact ⟨ret_bool HG.out, hb'⟩

theorem clos89 (B g : Nat) (pre post : Array Value) (eg : ∀ args w, (callFunc g args).run Try.prog w = .ok (.enter g args) w) (b : Bool) (x : (List S88)) (A0 : Option Addr) (c0 : Nat) (W : World) (hc : W.cell? ⟨B, 0, none⟩ = some (.func (.func g) pre post))
    (hp : ∀ W', Below W.heap.size W W' → Calls Try.prog g (pre.push (.slice A0 x.length c0) ++ post) W' fun e w' => e = .returned (.bool b) ∧ Below W'.heap.size W' w') :
    Calls Try.prog 99 #[.slice A0 x.length c0, .pointer (some ⟨B, 0, none⟩)] W fun e w' => e = .returned (.bool (!b)) ∧ Below W.heap.size W w' := by
  have HP := Aside0.mk hp
  clear hp
  have hB : B < W.heap.size := World.block_lt_of_cell? W _ hc
  have hne : B ≠ W.heap.size := by omega
  have hb0 := Below.refl W.heap.size W
  go_enter Try.func99, Try.ntmps99
  go_wp2_with fail
  refine (HP.out _ hb0).mono ?_
  rintro e w' ⟨rfl, hb'⟩
  go_wp2
  go_ret
  exact ⟨rfl, below_then hb0 hb0.size hb'⟩

theorem all89 (g : Nat) (pre post : Array Value) (eg : ∀ args w, (callFunc g args).run Try.prog w = .ok (.enter g args) w) (p : (List S88) → Bool) (A : Option Addr) (c : Nat) (xs : List (List S88)) (w : World) (hr : Kd.C (Kd.slice 88 k88) w A xs.length xs) (hlen : xs.length ≤ 9223372036854775807)
    (hp : ∀ (W : World) (x : (List S88)) (A0 : Option Addr) (c0 : Nat) , x ∈ xs → x.length ≤ c0 → k88.C W A0 x.length x → Below w.heap.size w W → Calls Try.prog g (pre.push (.slice A0 x.length c0) ++ post) W fun e w' => e = .returned (.bool (p x)) ∧ Below W.heap.size W w') :
    Calls Try.prog 72 #[.slice A xs.length c, .func (.func g) pre post] w fun e w' => e = .returned (.bool (xs.all p)) ∧ Below w.heap.size w w' := by
  have hb1 := below_alloc (Below.refl w.heap.size w) (.cells #[.func (.func g) pre post] 118)
  have hcell : (w.alloc (.cells #[.func (.func g) pre post] 118)).cell? ⟨w.heap.size, 0, none⟩ = some (.func (.func g) pre post) := by simp
  have H := Aside0.mk (cont89 w.heap.size p A c xs (w.alloc (.cells #[.func (.func g) pre post] 118)) (Kd.C_below hr hb1) hlen (fun W x A0 c0 hx hc0 hk0 hW => by
    have hbW : Below w.heap.size w W := below_then hb1 hb1.size hW
    refine clos89 w.heap.size g pre post eg (p x) x A0 c0 W ((hW.cell (p := ⟨w.heap.size, 0, none⟩) (by simp)).trans hcell) fun W' hW' => ?_
    exact hp W' x A0 c0 hx hc0 (Kd.C_below hk0 hW') (below_then hbW hbW.size hW')))
  clear hr hp hcell
  go_enter Try.func72, Try.ntmps72
  go_wp2_with (go_at_call 98; refine H.out.mono ?_; rintro e w' ⟨rfl, hb'⟩)
  go_ret
  exact ⟨rfl, below_then hb1 hb1.size hb'⟩
end Go.Proofs.Ytkbdphjnpieceaa.G
