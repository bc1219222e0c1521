/-
  No cell of these rows narrows 'for every input' (looked for: loops, veiled, ifaces, maps, wideKeys, modest, calm, conditions, laid).
  DERIVED. THE GIVEN ROWS OF THIS SEAT. 14 by the template 'for every input the law returns true; each argument reads behind the call as it read before'; 0 by the template 'total and deterministic' (their statements: YtkbdphjnpieceaaTotals.lean).
  GIVEN WITH THE SEED: the statements are not yours to turn. If you find one false, say at which input.
  Laid BY PROGRAM, IN A SANDBOX (cutbox-rows.mjs): the forced cells as the released guide's own fill.sh prints them over the translation d6d68485379f6d35… (all of the seat's roots in one cut). By AI agents, Wed Nov 11 2026. No macro, syntax, notation, axiom, sorry.
-/
import Derived.Test.YtkbdphjnpieceaaChecked
import GoSem.Claim
import GoSem.ClaimJoined
import GoSem.ClaimMapViews
import Derived.JoinedTies
import Derived.KernelRfl
namespace Go.Proofs.Ytkbdphjnpieceaa
/- THE CELL 'sum', in the pinned program and in every row, IS THE sha256 OF THE DUMP (.gsa) THAT YtkbdphjnpieceaaProg.lean LOADS. Nothing in Lean hashes anything: it is a label: what it is worth is what the hold of that sum in a sandbox is worth. -/
noncomputable def Try.pinned : Pinned := { name := "ytkbdphjnpieceaa", sum := "d6d68485379f6d357fd357a0c83aa2c9982df586e4d453d4bed00ca5c0eea34b", checked := Try.checked }
namespace Rows
def none {H : Type} : Left H := { results := [], args := [] }

/-- 'glisterlaw01.HillReaches': WHATEVER THE INPUT: true; the input reads as it did. -/
def hillReachesSpec : ChangeSpec := { name := "hillReaches", fn := fun _ => fun
  | [d1, d2, d3, d4, d5] => { results := [.lit (.bool true)], args := [d1, d2, d3, d4, d5] }
  | _ => none }
def hillReachesRow : OpenClaim := { program := "ytkbdphjnpieceaa", sum := "d6d68485379f6d357fd357a0c83aa2c9982df586e4d453d4bed00ca5c0eea34b", func := "glister/glisterlaw01.HillReaches", spec := "hillReaches", unfollowed := true, recurses := true, plainKeys := false, apart := false }
def HillReachesSaid : Prop := hillReachesRow.holds Try.pinned (OpenSpec.ofChange hillReachesSpec)

/-- ITS FALSE NEIGHBOUR: 'it returns false'. Refute it at one input. -/
def hillReachesWrong : ChangeSpec := { name := "hillReaches", fn := fun _ => fun
  | [d1, d2, d3, d4, d5] => { results := [.lit (.bool false)], args := [d1, d2, d3, d4, d5] }
  | _ => none }
def HillReachesWrongFalsely : Prop := hillReachesRow.holds Try.pinned (OpenSpec.ofChange hillReachesWrong)

/-- 'glisterlaw01.HillRises': WHATEVER THE INPUT: true; the input reads as it did. -/
def hillRisesSpec : ChangeSpec := { name := "hillRises", fn := fun _ => fun
  | [d1, d2, d3] => { results := [.lit (.bool true)], args := [d1, d2, d3] }
  | _ => none }
def hillRisesRow : OpenClaim := { program := "ytkbdphjnpieceaa", sum := "d6d68485379f6d357fd357a0c83aa2c9982df586e4d453d4bed00ca5c0eea34b", func := "glister/glisterlaw01.HillRises", spec := "hillRises", unfollowed := true, recurses := true, plainKeys := false, apart := false }
def HillRisesSaid : Prop := hillRisesRow.holds Try.pinned (OpenSpec.ofChange hillRisesSpec)

/-- ITS FALSE NEIGHBOUR: 'it returns false'. Refute it at one input. -/
def hillRisesWrong : ChangeSpec := { name := "hillRises", fn := fun _ => fun
  | [d1, d2, d3] => { results := [.lit (.bool false)], args := [d1, d2, d3] }
  | _ => none }
def HillRisesWrongFalsely : Prop := hillRisesRow.holds Try.pinned (OpenSpec.ofChange hillRisesWrong)

/-- 'glisterlaw01.HillMore': WHATEVER THE INPUT: true; the input reads as it did. -/
def hillMoreSpec : ChangeSpec := { name := "hillMore", fn := fun _ => fun
  | [d1, d2, d3, d4, d5, d6] => { results := [.lit (.bool true)], args := [d1, d2, d3, d4, d5, d6] }
  | _ => none }
def hillMoreRow : OpenClaim := { program := "ytkbdphjnpieceaa", sum := "d6d68485379f6d357fd357a0c83aa2c9982df586e4d453d4bed00ca5c0eea34b", func := "glister/glisterlaw01.HillMore", spec := "hillMore", unfollowed := true, recurses := true, plainKeys := false, apart := false }
def HillMoreSaid : Prop := hillMoreRow.holds Try.pinned (OpenSpec.ofChange hillMoreSpec)

/-- ITS FALSE NEIGHBOUR: 'it returns false'. Refute it at one input. -/
def hillMoreWrong : ChangeSpec := { name := "hillMore", fn := fun _ => fun
  | [d1, d2, d3, d4, d5, d6] => { results := [.lit (.bool false)], args := [d1, d2, d3, d4, d5, d6] }
  | _ => none }
def HillMoreWrongFalsely : Prop := hillMoreRow.holds Try.pinned (OpenSpec.ofChange hillMoreWrong)

/-- 'glisterlaw01.HillMoved': WHATEVER THE INPUT: true; the input reads as it did. -/
def hillMovedSpec : ChangeSpec := { name := "hillMoved", fn := fun _ => fun
  | [d1, d2, d3, d4, d5] => { results := [.lit (.bool true)], args := [d1, d2, d3, d4, d5] }
  | _ => none }
def hillMovedRow : OpenClaim := { program := "ytkbdphjnpieceaa", sum := "d6d68485379f6d357fd357a0c83aa2c9982df586e4d453d4bed00ca5c0eea34b", func := "glister/glisterlaw01.HillMoved", spec := "hillMoved", unfollowed := true, recurses := true, plainKeys := false, apart := false }
def HillMovedSaid : Prop := hillMovedRow.holds Try.pinned (OpenSpec.ofChange hillMovedSpec)

/-- ITS FALSE NEIGHBOUR: 'it returns false'. Refute it at one input. -/
def hillMovedWrong : ChangeSpec := { name := "hillMoved", fn := fun _ => fun
  | [d1, d2, d3, d4, d5] => { results := [.lit (.bool false)], args := [d1, d2, d3, d4, d5] }
  | _ => none }
def HillMovedWrongFalsely : Prop := hillMovedRow.holds Try.pinned (OpenSpec.ofChange hillMovedWrong)

/-- 'glisterlaw01.HillDivided': WHATEVER THE INPUT: true; the input reads as it did. -/
def hillDividedSpec : ChangeSpec := { name := "hillDivided", fn := fun _ => fun
  | [d1, d2, d3, d4] => { results := [.lit (.bool true)], args := [d1, d2, d3, d4] }
  | _ => none }
def hillDividedRow : OpenClaim := { program := "ytkbdphjnpieceaa", sum := "d6d68485379f6d357fd357a0c83aa2c9982df586e4d453d4bed00ca5c0eea34b", func := "glister/glisterlaw01.HillDivided", spec := "hillDivided", unfollowed := true, recurses := true, plainKeys := false, apart := false }
def HillDividedSaid : Prop := hillDividedRow.holds Try.pinned (OpenSpec.ofChange hillDividedSpec)

/-- ITS FALSE NEIGHBOUR: 'it returns false'. Refute it at one input. -/
def hillDividedWrong : ChangeSpec := { name := "hillDivided", fn := fun _ => fun
  | [d1, d2, d3, d4] => { results := [.lit (.bool false)], args := [d1, d2, d3, d4] }
  | _ => none }
def HillDividedWrongFalsely : Prop := hillDividedRow.holds Try.pinned (OpenSpec.ofChange hillDividedWrong)

/-- 'glisterlaw01.HillReached': WHATEVER THE INPUT: true; the input reads as it did. -/
def hillReachedSpec : ChangeSpec := { name := "hillReached", fn := fun _ => fun
  | [d1, d2, d3, d4] => { results := [.lit (.bool true)], args := [d1, d2, d3, d4] }
  | _ => none }
def hillReachedRow : OpenClaim := { program := "ytkbdphjnpieceaa", sum := "d6d68485379f6d357fd357a0c83aa2c9982df586e4d453d4bed00ca5c0eea34b", func := "glister/glisterlaw01.HillReached", spec := "hillReached", unfollowed := true, recurses := true, plainKeys := false, apart := false }
def HillReachedSaid : Prop := hillReachedRow.holds Try.pinned (OpenSpec.ofChange hillReachedSpec)

/-- ITS FALSE NEIGHBOUR: 'it returns false'. Refute it at one input. -/
def hillReachedWrong : ChangeSpec := { name := "hillReached", fn := fun _ => fun
  | [d1, d2, d3, d4] => { results := [.lit (.bool false)], args := [d1, d2, d3, d4] }
  | _ => none }
def HillReachedWrongFalsely : Prop := hillReachedRow.holds Try.pinned (OpenSpec.ofChange hillReachedWrong)

/-- 'glisterlaw01.HillHours': WHATEVER THE INPUT: true; the input reads as it did. -/
def hillHoursSpec : ChangeSpec := { name := "hillHours", fn := fun _ => fun
  | [d1, d2, d3, d4, d5] => { results := [.lit (.bool true)], args := [d1, d2, d3, d4, d5] }
  | _ => none }
def hillHoursRow : OpenClaim := { program := "ytkbdphjnpieceaa", sum := "d6d68485379f6d357fd357a0c83aa2c9982df586e4d453d4bed00ca5c0eea34b", func := "glister/glisterlaw01.HillHours", spec := "hillHours", unfollowed := true, recurses := true, plainKeys := false, apart := false }
def HillHoursSaid : Prop := hillHoursRow.holds Try.pinned (OpenSpec.ofChange hillHoursSpec)

/-- ITS FALSE NEIGHBOUR: 'it returns false'. Refute it at one input. -/
def hillHoursWrong : ChangeSpec := { name := "hillHours", fn := fun _ => fun
  | [d1, d2, d3, d4, d5] => { results := [.lit (.bool false)], args := [d1, d2, d3, d4, d5] }
  | _ => none }
def HillHoursWrongFalsely : Prop := hillHoursRow.holds Try.pinned (OpenSpec.ofChange hillHoursWrong)

/-- 'glisterlaw01.HillAlways': WHATEVER THE INPUT: true; the input reads as it did. -/
def hillAlwaysSpec : ChangeSpec := { name := "hillAlways", fn := fun _ => fun
  | [d1, d2, d3] => { results := [.lit (.bool true)], args := [d1, d2, d3] }
  | _ => none }
def hillAlwaysRow : OpenClaim := { program := "ytkbdphjnpieceaa", sum := "d6d68485379f6d357fd357a0c83aa2c9982df586e4d453d4bed00ca5c0eea34b", func := "glister/glisterlaw01.HillAlways", spec := "hillAlways", unfollowed := true, recurses := true, plainKeys := false, apart := false }
def HillAlwaysSaid : Prop := hillAlwaysRow.holds Try.pinned (OpenSpec.ofChange hillAlwaysSpec)

/-- ITS FALSE NEIGHBOUR: 'it returns false'. Refute it at one input. -/
def hillAlwaysWrong : ChangeSpec := { name := "hillAlways", fn := fun _ => fun
  | [d1, d2, d3] => { results := [.lit (.bool false)], args := [d1, d2, d3] }
  | _ => none }
def HillAlwaysWrongFalsely : Prop := hillAlwaysRow.holds Try.pinned (OpenSpec.ofChange hillAlwaysWrong)

/-- 'glisterlaw01.HillOrder': WHATEVER THE INPUT: true; the input reads as it did. -/
def hillOrderSpec : ChangeSpec := { name := "hillOrder", fn := fun _ => fun
  | [d1, d2, d3] => { results := [.lit (.bool true)], args := [d1, d2, d3] }
  | _ => none }
def hillOrderRow : OpenClaim := { program := "ytkbdphjnpieceaa", sum := "d6d68485379f6d357fd357a0c83aa2c9982df586e4d453d4bed00ca5c0eea34b", func := "glister/glisterlaw01.HillOrder", spec := "hillOrder", unfollowed := true, recurses := true, plainKeys := false, apart := false }
def HillOrderSaid : Prop := hillOrderRow.holds Try.pinned (OpenSpec.ofChange hillOrderSpec)

/-- ITS FALSE NEIGHBOUR: 'it returns false'. Refute it at one input. -/
def hillOrderWrong : ChangeSpec := { name := "hillOrder", fn := fun _ => fun
  | [d1, d2, d3] => { results := [.lit (.bool false)], args := [d1, d2, d3] }
  | _ => none }
def HillOrderWrongFalsely : Prop := hillOrderRow.holds Try.pinned (OpenSpec.ofChange hillOrderWrong)

/-- 'glisterlaw01.HillWhys': WHATEVER THE INPUT: true; the input reads as it did. -/
def hillWhysSpec : ChangeSpec := { name := "hillWhys", fn := fun _ => fun
  | [d1, d2, d3, d4, d5] => { results := [.lit (.bool true)], args := [d1, d2, d3, d4, d5] }
  | _ => none }
def hillWhysRow : OpenClaim := { program := "ytkbdphjnpieceaa", sum := "d6d68485379f6d357fd357a0c83aa2c9982df586e4d453d4bed00ca5c0eea34b", func := "glister/glisterlaw01.HillWhys", spec := "hillWhys", unfollowed := true, recurses := true, plainKeys := false, apart := false }
def HillWhysSaid : Prop := hillWhysRow.holds Try.pinned (OpenSpec.ofChange hillWhysSpec)

/-- ITS FALSE NEIGHBOUR: 'it returns false'. Refute it at one input. -/
def hillWhysWrong : ChangeSpec := { name := "hillWhys", fn := fun _ => fun
  | [d1, d2, d3, d4, d5] => { results := [.lit (.bool false)], args := [d1, d2, d3, d4, d5] }
  | _ => none }
def HillWhysWrongFalsely : Prop := hillWhysRow.holds Try.pinned (OpenSpec.ofChange hillWhysWrong)

/-- 'glisterlaw01.HillWays': WHATEVER THE INPUT: true; the input reads as it did. -/
def hillWaysSpec : ChangeSpec := { name := "hillWays", fn := fun _ => fun
  | [d1, d2, d3, d4] => { results := [.lit (.bool true)], args := [d1, d2, d3, d4] }
  | _ => none }
def hillWaysRow : OpenClaim := { program := "ytkbdphjnpieceaa", sum := "d6d68485379f6d357fd357a0c83aa2c9982df586e4d453d4bed00ca5c0eea34b", func := "glister/glisterlaw01.HillWays", spec := "hillWays", unfollowed := true, recurses := true, plainKeys := false, apart := false }
def HillWaysSaid : Prop := hillWaysRow.holds Try.pinned (OpenSpec.ofChange hillWaysSpec)

/-- ITS FALSE NEIGHBOUR: 'it returns false'. Refute it at one input. -/
def hillWaysWrong : ChangeSpec := { name := "hillWays", fn := fun _ => fun
  | [d1, d2, d3, d4] => { results := [.lit (.bool false)], args := [d1, d2, d3, d4] }
  | _ => none }
def HillWaysWrongFalsely : Prop := hillWaysRow.holds Try.pinned (OpenSpec.ofChange hillWaysWrong)

/-- 'glisterlaw01.HillHigher': WHATEVER THE INPUT: true; the input reads as it did. -/
def hillHigherSpec : ChangeSpec := { name := "hillHigher", fn := fun _ => fun
  | [d1, d2, d3] => { results := [.lit (.bool true)], args := [d1, d2, d3] }
  | _ => none }
def hillHigherRow : OpenClaim := { program := "ytkbdphjnpieceaa", sum := "d6d68485379f6d357fd357a0c83aa2c9982df586e4d453d4bed00ca5c0eea34b", func := "glister/glisterlaw01.HillHigher", spec := "hillHigher", unfollowed := true, recurses := true, plainKeys := false, apart := false }
def HillHigherSaid : Prop := hillHigherRow.holds Try.pinned (OpenSpec.ofChange hillHigherSpec)

/-- ITS FALSE NEIGHBOUR: 'it returns false'. Refute it at one input. -/
def hillHigherWrong : ChangeSpec := { name := "hillHigher", fn := fun _ => fun
  | [d1, d2, d3] => { results := [.lit (.bool false)], args := [d1, d2, d3] }
  | _ => none }
def HillHigherWrongFalsely : Prop := hillHigherRow.holds Try.pinned (OpenSpec.ofChange hillHigherWrong)

/-- 'glisterlaw01.HillOver': WHATEVER THE INPUT: true; the input reads as it did. -/
def hillOverSpec : ChangeSpec := { name := "hillOver", fn := fun _ => fun
  | [d1, d2, d3, d4] => { results := [.lit (.bool true)], args := [d1, d2, d3, d4] }
  | _ => none }
def hillOverRow : OpenClaim := { program := "ytkbdphjnpieceaa", sum := "d6d68485379f6d357fd357a0c83aa2c9982df586e4d453d4bed00ca5c0eea34b", func := "glister/glisterlaw01.HillOver", spec := "hillOver", unfollowed := true, recurses := true, plainKeys := false, apart := false }
def HillOverSaid : Prop := hillOverRow.holds Try.pinned (OpenSpec.ofChange hillOverSpec)

/-- ITS FALSE NEIGHBOUR: 'it returns false'. Refute it at one input. -/
def hillOverWrong : ChangeSpec := { name := "hillOver", fn := fun _ => fun
  | [d1, d2, d3, d4] => { results := [.lit (.bool false)], args := [d1, d2, d3, d4] }
  | _ => none }
def HillOverWrongFalsely : Prop := hillOverRow.holds Try.pinned (OpenSpec.ofChange hillOverWrong)

/-- 'glisterlaw01.HillNames': WHATEVER THE INPUT: true; the input reads as it did. -/
def hillNamesSpec : ChangeSpec := { name := "hillNames", fn := fun _ => fun
  | [] => { results := [.lit (.bool true)], args := [] }
  | _ => none }
def hillNamesRow : OpenClaim := { program := "ytkbdphjnpieceaa", sum := "d6d68485379f6d357fd357a0c83aa2c9982df586e4d453d4bed00ca5c0eea34b", func := "glister/glisterlaw01.HillNames", spec := "hillNames", unfollowed := true, recurses := true, plainKeys := false, apart := false }
def HillNamesSaid : Prop := hillNamesRow.holds Try.pinned (OpenSpec.ofChange hillNamesSpec)

/-- ITS FALSE NEIGHBOUR: 'it returns false'. Refute it at one input. -/
def hillNamesWrong : ChangeSpec := { name := "hillNames", fn := fun _ => fun
  | [] => { results := [.lit (.bool false)], args := [] }
  | _ => none }
def HillNamesWrongFalsely : Prop := hillNamesRow.holds Try.pinned (OpenSpec.ofChange hillNamesWrong)

/- THE SECOND FORM. 'bulk': how many values and letters a reading holds, each counted each time it is reached (what is shared counts as often as it is met; a slice's spare places count too). A statement '..UptoSaid' is the law's where the arguments, and the package variables that the reading takes, are together of bulk at most 1048576: NARROWER than '..Said'. Prove '..Said' where nothing that the law and all that it calls make is longer than what came in: it says more and counts as full. Else prove '..UptoSaid'. A law counts once. -/
mutual
def uptoBulk {H : Type} : DataW H → Nat
  | .lit (.string bytes) => bytes.length + 1
  | .lit _ => 1
  | .nil => 1
  | .ptr d => uptoBulk d + 1
  | .slice elems spare => uptoBulkAll elems + uptoBulkAll spare + 1
  | .agg parts => uptoBulkAll parts + 1
  | .iface _ d => uptoBulk d + 1
  | .map entries => uptoBulkEntries entries + 1
  | .held _ => 1
def uptoBulkAll {H : Type} : List (DataW H) → Nat
  | [] => 0
  | d :: r => uptoBulk d + uptoBulkAll r
def uptoBulkEntries {H : Type} : List (Lit × DataW H) → Nat
  | [] => 0
  | x :: r => uptoBulkEntry x + uptoBulkEntries r
def uptoBulkEntry {H : Type} : Lit × DataW H → Nat
  | (.string bytes, d) => bytes.length + uptoBulk d + 1
  | (_, d) => uptoBulk d + 1
 end
def uptoSmall : (H : Type) → List (DataW H) → Bool := fun _ ds => decide (uptoBulkAll ds ≤ 1048576)
def OpenSpec.upto (s : _root_.Go.ChangeSpec) : _root_.Go.OpenSpec := { _root_.Go.OpenSpec.ofChange s with cond := some uptoSmall }

/-- 'glisterlaw01.HillReaches', WHERE WHAT IT READS IS OF BULK AT MOST 1048576: true; the input reads as it did. -/
def hillReachesUptoRow : OpenClaim := { program := "ytkbdphjnpieceaa", sum := "d6d68485379f6d357fd357a0c83aa2c9982df586e4d453d4bed00ca5c0eea34b", func := "glister/glisterlaw01.HillReaches", spec := "hillReaches", unfollowed := true, recurses := true, plainKeys := false, apart := false, narrowed := true }
def HillReachesUptoSaid : Prop := hillReachesUptoRow.holds Try.pinned (OpenSpec.upto hillReachesSpec)

/-- 'glisterlaw01.HillRises', WHERE WHAT IT READS IS OF BULK AT MOST 1048576: true; the input reads as it did. -/
def hillRisesUptoRow : OpenClaim := { program := "ytkbdphjnpieceaa", sum := "d6d68485379f6d357fd357a0c83aa2c9982df586e4d453d4bed00ca5c0eea34b", func := "glister/glisterlaw01.HillRises", spec := "hillRises", unfollowed := true, recurses := true, plainKeys := false, apart := false, narrowed := true }
def HillRisesUptoSaid : Prop := hillRisesUptoRow.holds Try.pinned (OpenSpec.upto hillRisesSpec)

/-- 'glisterlaw01.HillMore', WHERE WHAT IT READS IS OF BULK AT MOST 1048576: true; the input reads as it did. -/
def hillMoreUptoRow : OpenClaim := { program := "ytkbdphjnpieceaa", sum := "d6d68485379f6d357fd357a0c83aa2c9982df586e4d453d4bed00ca5c0eea34b", func := "glister/glisterlaw01.HillMore", spec := "hillMore", unfollowed := true, recurses := true, plainKeys := false, apart := false, narrowed := true }
def HillMoreUptoSaid : Prop := hillMoreUptoRow.holds Try.pinned (OpenSpec.upto hillMoreSpec)

/-- 'glisterlaw01.HillMoved', WHERE WHAT IT READS IS OF BULK AT MOST 1048576: true; the input reads as it did. -/
def hillMovedUptoRow : OpenClaim := { program := "ytkbdphjnpieceaa", sum := "d6d68485379f6d357fd357a0c83aa2c9982df586e4d453d4bed00ca5c0eea34b", func := "glister/glisterlaw01.HillMoved", spec := "hillMoved", unfollowed := true, recurses := true, plainKeys := false, apart := false, narrowed := true }
def HillMovedUptoSaid : Prop := hillMovedUptoRow.holds Try.pinned (OpenSpec.upto hillMovedSpec)

/-- 'glisterlaw01.HillDivided', WHERE WHAT IT READS IS OF BULK AT MOST 1048576: true; the input reads as it did. -/
def hillDividedUptoRow : OpenClaim := { program := "ytkbdphjnpieceaa", sum := "d6d68485379f6d357fd357a0c83aa2c9982df586e4d453d4bed00ca5c0eea34b", func := "glister/glisterlaw01.HillDivided", spec := "hillDivided", unfollowed := true, recurses := true, plainKeys := false, apart := false, narrowed := true }
def HillDividedUptoSaid : Prop := hillDividedUptoRow.holds Try.pinned (OpenSpec.upto hillDividedSpec)

/-- 'glisterlaw01.HillReached', WHERE WHAT IT READS IS OF BULK AT MOST 1048576: true; the input reads as it did. -/
def hillReachedUptoRow : OpenClaim := { program := "ytkbdphjnpieceaa", sum := "d6d68485379f6d357fd357a0c83aa2c9982df586e4d453d4bed00ca5c0eea34b", func := "glister/glisterlaw01.HillReached", spec := "hillReached", unfollowed := true, recurses := true, plainKeys := false, apart := false, narrowed := true }
def HillReachedUptoSaid : Prop := hillReachedUptoRow.holds Try.pinned (OpenSpec.upto hillReachedSpec)

/-- 'glisterlaw01.HillHours', WHERE WHAT IT READS IS OF BULK AT MOST 1048576: true; the input reads as it did. -/
def hillHoursUptoRow : OpenClaim := { program := "ytkbdphjnpieceaa", sum := "d6d68485379f6d357fd357a0c83aa2c9982df586e4d453d4bed00ca5c0eea34b", func := "glister/glisterlaw01.HillHours", spec := "hillHours", unfollowed := true, recurses := true, plainKeys := false, apart := false, narrowed := true }
def HillHoursUptoSaid : Prop := hillHoursUptoRow.holds Try.pinned (OpenSpec.upto hillHoursSpec)

/-- 'glisterlaw01.HillAlways', WHERE WHAT IT READS IS OF BULK AT MOST 1048576: true; the input reads as it did. -/
def hillAlwaysUptoRow : OpenClaim := { program := "ytkbdphjnpieceaa", sum := "d6d68485379f6d357fd357a0c83aa2c9982df586e4d453d4bed00ca5c0eea34b", func := "glister/glisterlaw01.HillAlways", spec := "hillAlways", unfollowed := true, recurses := true, plainKeys := false, apart := false, narrowed := true }
def HillAlwaysUptoSaid : Prop := hillAlwaysUptoRow.holds Try.pinned (OpenSpec.upto hillAlwaysSpec)

/-- 'glisterlaw01.HillOrder', WHERE WHAT IT READS IS OF BULK AT MOST 1048576: true; the input reads as it did. -/
def hillOrderUptoRow : OpenClaim := { program := "ytkbdphjnpieceaa", sum := "d6d68485379f6d357fd357a0c83aa2c9982df586e4d453d4bed00ca5c0eea34b", func := "glister/glisterlaw01.HillOrder", spec := "hillOrder", unfollowed := true, recurses := true, plainKeys := false, apart := false, narrowed := true }
def HillOrderUptoSaid : Prop := hillOrderUptoRow.holds Try.pinned (OpenSpec.upto hillOrderSpec)

/-- 'glisterlaw01.HillWhys', WHERE WHAT IT READS IS OF BULK AT MOST 1048576: true; the input reads as it did. -/
def hillWhysUptoRow : OpenClaim := { program := "ytkbdphjnpieceaa", sum := "d6d68485379f6d357fd357a0c83aa2c9982df586e4d453d4bed00ca5c0eea34b", func := "glister/glisterlaw01.HillWhys", spec := "hillWhys", unfollowed := true, recurses := true, plainKeys := false, apart := false, narrowed := true }
def HillWhysUptoSaid : Prop := hillWhysUptoRow.holds Try.pinned (OpenSpec.upto hillWhysSpec)

/-- 'glisterlaw01.HillWays', WHERE WHAT IT READS IS OF BULK AT MOST 1048576: true; the input reads as it did. -/
def hillWaysUptoRow : OpenClaim := { program := "ytkbdphjnpieceaa", sum := "d6d68485379f6d357fd357a0c83aa2c9982df586e4d453d4bed00ca5c0eea34b", func := "glister/glisterlaw01.HillWays", spec := "hillWays", unfollowed := true, recurses := true, plainKeys := false, apart := false, narrowed := true }
def HillWaysUptoSaid : Prop := hillWaysUptoRow.holds Try.pinned (OpenSpec.upto hillWaysSpec)

/-- 'glisterlaw01.HillHigher', WHERE WHAT IT READS IS OF BULK AT MOST 1048576: true; the input reads as it did. -/
def hillHigherUptoRow : OpenClaim := { program := "ytkbdphjnpieceaa", sum := "d6d68485379f6d357fd357a0c83aa2c9982df586e4d453d4bed00ca5c0eea34b", func := "glister/glisterlaw01.HillHigher", spec := "hillHigher", unfollowed := true, recurses := true, plainKeys := false, apart := false, narrowed := true }
def HillHigherUptoSaid : Prop := hillHigherUptoRow.holds Try.pinned (OpenSpec.upto hillHigherSpec)

/-- 'glisterlaw01.HillOver', WHERE WHAT IT READS IS OF BULK AT MOST 1048576: true; the input reads as it did. -/
def hillOverUptoRow : OpenClaim := { program := "ytkbdphjnpieceaa", sum := "d6d68485379f6d357fd357a0c83aa2c9982df586e4d453d4bed00ca5c0eea34b", func := "glister/glisterlaw01.HillOver", spec := "hillOver", unfollowed := true, recurses := true, plainKeys := false, apart := false, narrowed := true }
def HillOverUptoSaid : Prop := hillOverUptoRow.holds Try.pinned (OpenSpec.upto hillOverSpec)

/-- 'glisterlaw01.HillNames', WHERE WHAT IT READS IS OF BULK AT MOST 1048576: true; the input reads as it did. -/
def hillNamesUptoRow : OpenClaim := { program := "ytkbdphjnpieceaa", sum := "d6d68485379f6d357fd357a0c83aa2c9982df586e4d453d4bed00ca5c0eea34b", func := "glister/glisterlaw01.HillNames", spec := "hillNames", unfollowed := true, recurses := true, plainKeys := false, apart := false, narrowed := true }
def HillNamesUptoSaid : Prop := hillNamesUptoRow.holds Try.pinned (OpenSpec.upto hillNamesSpec)

end Rows
end Go.Proofs.Ytkbdphjnpieceaa
