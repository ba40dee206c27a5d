/-
  No cell of these rows narrows 'for every input' (looked for: loops, veiled, ifaces, maps, wideKeys, modest, calm, conditions, laid).
  DERIVED. THE GIVEN ROWS OF THIS SEAT. 17 by the template 'for every input the law returns true; each argument reads behind the call as it read before'; 0 by the template 'total and deterministic' (their statements: YtegbbhaghlcckaaTotals.lean).
  GIVEN WITH THE SEED: the statements are not yours to turn. If you find one false, say at which input.
  Laid BY PROGRAM, IN A SANDBOX (cutbox-rows.mjs): the forced cells as the released guide's own fill.sh prints them over the translation a11f8a8da3d7b1d6… (all of the seat's roots in one cut). By AI agents, Wed Nov 11 2026. No macro, syntax, notation, axiom, sorry.
-/
import Derived.Test.YtegbbhaghlcckaaChecked
import GoSem.Claim
import GoSem.ClaimJoined
import GoSem.ClaimMapViews
import Derived.JoinedTies
import Derived.KernelRfl
namespace Go.Proofs.Ytegbbhaghlcckaa
/- THE CELL 'sum', in the pinned program and in every row, IS THE sha256 OF THE DUMP (.gsa) THAT YtegbbhaghlcckaaProg.lean LOADS. Nothing in Lean hashes anything: it is a label: what it is worth is what the hold of that sum in a sandbox is worth. -/
noncomputable def Try.pinned : Pinned := { name := "ytegbbhaghlcckaa", sum := "a11f8a8da3d7b1d69c0ad7fbcea48c9acedb81a878955484703508ca1cf5b984", checked := Try.checked }
namespace Rows
def none {H : Type} : Left H := { results := [], args := [] }

/-- 'letterbagtop.TopOrdered': WHATEVER THE INPUT: true; the input reads as it did. -/
def topOrderedSpec : ChangeSpec := { name := "topOrdered", fn := fun _ => fun
  | [d1, d2, d3, d4] => { results := [.lit (.bool true)], args := [d1, d2, d3, d4] }
  | _ => none }
def topOrderedRow : OpenClaim := { program := "ytegbbhaghlcckaa", sum := "a11f8a8da3d7b1d69c0ad7fbcea48c9acedb81a878955484703508ca1cf5b984", func := "letterbag/letterbagtop.TopOrdered", spec := "topOrdered", unfollowed := true, recurses := true, plainKeys := false, apart := false }
def TopOrderedSaid : Prop := topOrderedRow.holds Try.pinned (OpenSpec.ofChange topOrderedSpec)

/-- ITS FALSE NEIGHBOUR: 'it returns false'. Refute it at one input. -/
def topOrderedWrong : ChangeSpec := { name := "topOrdered", fn := fun _ => fun
  | [d1, d2, d3, d4] => { results := [.lit (.bool false)], args := [d1, d2, d3, d4] }
  | _ => none }
def TopOrderedWrongFalsely : Prop := topOrderedRow.holds Try.pinned (OpenSpec.ofChange topOrderedWrong)

/-- 'letterbaglaw29.SorterKeeps': WHATEVER THE INPUT: true; the input reads as it did. -/
def sorterKeepsSpec : ChangeSpec := { name := "sorterKeeps", fn := fun _ => fun
  | [d1, d2, d3] => { results := [.lit (.bool true)], args := [d1, d2, d3] }
  | _ => none }
def sorterKeepsRow : OpenClaim := { program := "ytegbbhaghlcckaa", sum := "a11f8a8da3d7b1d69c0ad7fbcea48c9acedb81a878955484703508ca1cf5b984", func := "letterbag/letterbaglaw29.SorterKeeps", spec := "sorterKeeps", unfollowed := true, recurses := true, plainKeys := false, apart := false }
def SorterKeepsSaid : Prop := sorterKeepsRow.holds Try.pinned (OpenSpec.ofChange sorterKeepsSpec)

/-- ITS FALSE NEIGHBOUR: 'it returns false'. Refute it at one input. -/
def sorterKeepsWrong : ChangeSpec := { name := "sorterKeeps", fn := fun _ => fun
  | [d1, d2, d3] => { results := [.lit (.bool false)], args := [d1, d2, d3] }
  | _ => none }
def SorterKeepsWrongFalsely : Prop := sorterKeepsRow.holds Try.pinned (OpenSpec.ofChange sorterKeepsWrong)

/-- 'letterbaglaw29.SorterEvents': WHATEVER THE INPUT: true; the input reads as it did. -/
def sorterEventsSpec : ChangeSpec := { name := "sorterEvents", fn := fun _ => fun
  | [d1, d2, d3] => { results := [.lit (.bool true)], args := [d1, d2, d3] }
  | _ => none }
def sorterEventsRow : OpenClaim := { program := "ytegbbhaghlcckaa", sum := "a11f8a8da3d7b1d69c0ad7fbcea48c9acedb81a878955484703508ca1cf5b984", func := "letterbag/letterbaglaw29.SorterEvents", spec := "sorterEvents", unfollowed := true, recurses := true, plainKeys := false, apart := false }
def SorterEventsSaid : Prop := sorterEventsRow.holds Try.pinned (OpenSpec.ofChange sorterEventsSpec)

/-- ITS FALSE NEIGHBOUR: 'it returns false'. Refute it at one input. -/
def sorterEventsWrong : ChangeSpec := { name := "sorterEvents", fn := fun _ => fun
  | [d1, d2, d3] => { results := [.lit (.bool false)], args := [d1, d2, d3] }
  | _ => none }
def SorterEventsWrongFalsely : Prop := sorterEventsRow.holds Try.pinned (OpenSpec.ofChange sorterEventsWrong)

/-- 'letterbaglaw29.SorterNeeds': WHATEVER THE INPUT: true; the input reads as it did. -/
def sorterNeedsSpec : ChangeSpec := { name := "sorterNeeds", fn := fun _ => fun
  | [d1, d2, d3] => { results := [.lit (.bool true)], args := [d1, d2, d3] }
  | _ => none }
def sorterNeedsRow : OpenClaim := { program := "ytegbbhaghlcckaa", sum := "a11f8a8da3d7b1d69c0ad7fbcea48c9acedb81a878955484703508ca1cf5b984", func := "letterbag/letterbaglaw29.SorterNeeds", spec := "sorterNeeds", unfollowed := true, recurses := true, plainKeys := false, apart := false }
def SorterNeedsSaid : Prop := sorterNeedsRow.holds Try.pinned (OpenSpec.ofChange sorterNeedsSpec)

/-- ITS FALSE NEIGHBOUR: 'it returns false'. Refute it at one input. -/
def sorterNeedsWrong : ChangeSpec := { name := "sorterNeeds", fn := fun _ => fun
  | [d1, d2, d3] => { results := [.lit (.bool false)], args := [d1, d2, d3] }
  | _ => none }
def SorterNeedsWrongFalsely : Prop := sorterNeedsRow.holds Try.pinned (OpenSpec.ofChange sorterNeedsWrong)

/-- 'letterbaglaw29.SorterOrder': WHATEVER THE INPUT: true; the input reads as it did. -/
def sorterOrderSpec : ChangeSpec := { name := "sorterOrder", fn := fun _ => fun
  | [d] => { results := [.lit (.bool true)], args := [d] }
  | _ => none }
def sorterOrderRow : OpenClaim := { program := "ytegbbhaghlcckaa", sum := "a11f8a8da3d7b1d69c0ad7fbcea48c9acedb81a878955484703508ca1cf5b984", func := "letterbag/letterbaglaw29.SorterOrder", spec := "sorterOrder", unfollowed := true, recurses := true, plainKeys := false, apart := false }
def SorterOrderSaid : Prop := sorterOrderRow.holds Try.pinned (OpenSpec.ofChange sorterOrderSpec)

/-- ITS FALSE NEIGHBOUR: 'it returns false'. Refute it at one input. -/
def sorterOrderWrong : ChangeSpec := { name := "sorterOrder", fn := fun _ => fun
  | [d] => { results := [.lit (.bool false)], args := [d] }
  | _ => none }
def SorterOrderWrongFalsely : Prop := sorterOrderRow.holds Try.pinned (OpenSpec.ofChange sorterOrderWrong)

/-- 'letterbaglaw29.SorterPasses': WHATEVER THE INPUT: true; the input reads as it did. -/
def sorterPassesSpec : ChangeSpec := { name := "sorterPasses", fn := fun _ => fun
  | [d] => { results := [.lit (.bool true)], args := [d] }
  | _ => none }
def sorterPassesRow : OpenClaim := { program := "ytegbbhaghlcckaa", sum := "a11f8a8da3d7b1d69c0ad7fbcea48c9acedb81a878955484703508ca1cf5b984", func := "letterbag/letterbaglaw29.SorterPasses", spec := "sorterPasses", unfollowed := true, recurses := true, plainKeys := false, apart := false }
def SorterPassesSaid : Prop := sorterPassesRow.holds Try.pinned (OpenSpec.ofChange sorterPassesSpec)

/-- ITS FALSE NEIGHBOUR: 'it returns false'. Refute it at one input. -/
def sorterPassesWrong : ChangeSpec := { name := "sorterPasses", fn := fun _ => fun
  | [d] => { results := [.lit (.bool false)], args := [d] }
  | _ => none }
def SorterPassesWrongFalsely : Prop := sorterPassesRow.holds Try.pinned (OpenSpec.ofChange sorterPassesWrong)

/-- 'letterbaglaw29.SorterWrong': WHATEVER THE INPUT: true; the input reads as it did. -/
def sorterWrongSpec : ChangeSpec := { name := "sorterWrong", fn := fun _ => fun
  | [d1, d2, d3] => { results := [.lit (.bool true)], args := [d1, d2, d3] }
  | _ => none }
def sorterWrongRow : OpenClaim := { program := "ytegbbhaghlcckaa", sum := "a11f8a8da3d7b1d69c0ad7fbcea48c9acedb81a878955484703508ca1cf5b984", func := "letterbag/letterbaglaw29.SorterWrong", spec := "sorterWrong", unfollowed := true, recurses := true, plainKeys := false, apart := false }
def SorterWrongSaid : Prop := sorterWrongRow.holds Try.pinned (OpenSpec.ofChange sorterWrongSpec)

/-- ITS FALSE NEIGHBOUR: 'it returns false'. Refute it at one input. -/
def sorterWrongWrong : ChangeSpec := { name := "sorterWrong", fn := fun _ => fun
  | [d1, d2, d3] => { results := [.lit (.bool false)], args := [d1, d2, d3] }
  | _ => none }
def SorterWrongWrongFalsely : Prop := sorterWrongRow.holds Try.pinned (OpenSpec.ofChange sorterWrongWrong)

/-- 'letterbaglaw29.SorterRoom': WHATEVER THE INPUT: true; the input reads as it did. -/
def sorterRoomSpec : ChangeSpec := { name := "sorterRoom", fn := fun _ => fun
  | [d] => { results := [.lit (.bool true)], args := [d] }
  | _ => none }
def sorterRoomRow : OpenClaim := { program := "ytegbbhaghlcckaa", sum := "a11f8a8da3d7b1d69c0ad7fbcea48c9acedb81a878955484703508ca1cf5b984", func := "letterbag/letterbaglaw29.SorterRoom", spec := "sorterRoom", unfollowed := true, recurses := true, plainKeys := false, apart := false }
def SorterRoomSaid : Prop := sorterRoomRow.holds Try.pinned (OpenSpec.ofChange sorterRoomSpec)

/-- ITS FALSE NEIGHBOUR: 'it returns false'. Refute it at one input. -/
def sorterRoomWrong : ChangeSpec := { name := "sorterRoom", fn := fun _ => fun
  | [d] => { results := [.lit (.bool false)], args := [d] }
  | _ => none }
def SorterRoomWrongFalsely : Prop := sorterRoomRow.holds Try.pinned (OpenSpec.ofChange sorterRoomWrong)

/-- 'letterbaglaw31.PlantWhere': WHATEVER THE INPUT: true; the input reads as it did. -/
def plantWhereSpec : ChangeSpec := { name := "plantWhere", fn := fun _ => fun
  | [d1, d2, d3] => { results := [.lit (.bool true)], args := [d1, d2, d3] }
  | _ => none }
def plantWhereRow : OpenClaim := { program := "ytegbbhaghlcckaa", sum := "a11f8a8da3d7b1d69c0ad7fbcea48c9acedb81a878955484703508ca1cf5b984", func := "letterbag/letterbaglaw31.PlantWhere", spec := "plantWhere", unfollowed := true, recurses := true, plainKeys := false, apart := false }
def PlantWhereSaid : Prop := plantWhereRow.holds Try.pinned (OpenSpec.ofChange plantWhereSpec)

/-- ITS FALSE NEIGHBOUR: 'it returns false'. Refute it at one input. -/
def plantWhereWrong : ChangeSpec := { name := "plantWhere", fn := fun _ => fun
  | [d1, d2, d3] => { results := [.lit (.bool false)], args := [d1, d2, d3] }
  | _ => none }
def PlantWhereWrongFalsely : Prop := plantWhereRow.holds Try.pinned (OpenSpec.ofChange plantWhereWrong)

/-- 'letterbaglaw31.PlantSmall': WHATEVER THE INPUT: true; the input reads as it did. -/
def plantSmallSpec : ChangeSpec := { name := "plantSmall", fn := fun _ => fun
  | [] => { results := [.lit (.bool true)], args := [] }
  | _ => none }
def plantSmallRow : OpenClaim := { program := "ytegbbhaghlcckaa", sum := "a11f8a8da3d7b1d69c0ad7fbcea48c9acedb81a878955484703508ca1cf5b984", func := "letterbag/letterbaglaw31.PlantSmall", spec := "plantSmall", unfollowed := true, recurses := true, plainKeys := false, apart := false }
def PlantSmallSaid : Prop := plantSmallRow.holds Try.pinned (OpenSpec.ofChange plantSmallSpec)

/-- ITS FALSE NEIGHBOUR: 'it returns false'. Refute it at one input. -/
def plantSmallWrong : ChangeSpec := { name := "plantSmall", fn := fun _ => fun
  | [] => { results := [.lit (.bool false)], args := [] }
  | _ => none }
def PlantSmallWrongFalsely : Prop := plantSmallRow.holds Try.pinned (OpenSpec.ofChange plantSmallWrong)

/-- 'letterbaglaw31.PlantKeeps': WHATEVER THE INPUT: true; the input reads as it did. -/
def plantKeepsSpec : ChangeSpec := { name := "plantKeeps", fn := fun _ => fun
  | [d1, d2] => { results := [.lit (.bool true)], args := [d1, d2] }
  | _ => none }
def plantKeepsRow : OpenClaim := { program := "ytegbbhaghlcckaa", sum := "a11f8a8da3d7b1d69c0ad7fbcea48c9acedb81a878955484703508ca1cf5b984", func := "letterbag/letterbaglaw31.PlantKeeps", spec := "plantKeeps", unfollowed := true, recurses := true, plainKeys := false, apart := false }
def PlantKeepsSaid : Prop := plantKeepsRow.holds Try.pinned (OpenSpec.ofChange plantKeepsSpec)

/-- ITS FALSE NEIGHBOUR: 'it returns false'. Refute it at one input. -/
def plantKeepsWrong : ChangeSpec := { name := "plantKeeps", fn := fun _ => fun
  | [d1, d2] => { results := [.lit (.bool false)], args := [d1, d2] }
  | _ => none }
def PlantKeepsWrongFalsely : Prop := plantKeepsRow.holds Try.pinned (OpenSpec.ofChange plantKeepsWrong)

/-- 'letterbaglaw31.PlantTimes': WHATEVER THE INPUT: true; the input reads as it did. -/
def plantTimesSpec : ChangeSpec := { name := "plantTimes", fn := fun _ => fun
  | [d] => { results := [.lit (.bool true)], args := [d] }
  | _ => none }
def plantTimesRow : OpenClaim := { program := "ytegbbhaghlcckaa", sum := "a11f8a8da3d7b1d69c0ad7fbcea48c9acedb81a878955484703508ca1cf5b984", func := "letterbag/letterbaglaw31.PlantTimes", spec := "plantTimes", unfollowed := true, recurses := true, plainKeys := false, apart := false }
def PlantTimesSaid : Prop := plantTimesRow.holds Try.pinned (OpenSpec.ofChange plantTimesSpec)

/-- ITS FALSE NEIGHBOUR: 'it returns false'. Refute it at one input. -/
def plantTimesWrong : ChangeSpec := { name := "plantTimes", fn := fun _ => fun
  | [d] => { results := [.lit (.bool false)], args := [d] }
  | _ => none }
def PlantTimesWrongFalsely : Prop := plantTimesRow.holds Try.pinned (OpenSpec.ofChange plantTimesWrong)

/-- 'letterbaglaw31.PlantFeeds': WHATEVER THE INPUT: true; the input reads as it did. -/
def plantFeedsSpec : ChangeSpec := { name := "plantFeeds", fn := fun _ => fun
  | [d] => { results := [.lit (.bool true)], args := [d] }
  | _ => none }
def plantFeedsRow : OpenClaim := { program := "ytegbbhaghlcckaa", sum := "a11f8a8da3d7b1d69c0ad7fbcea48c9acedb81a878955484703508ca1cf5b984", func := "letterbag/letterbaglaw31.PlantFeeds", spec := "plantFeeds", unfollowed := true, recurses := true, plainKeys := false, apart := false }
def PlantFeedsSaid : Prop := plantFeedsRow.holds Try.pinned (OpenSpec.ofChange plantFeedsSpec)

/-- ITS FALSE NEIGHBOUR: 'it returns false'. Refute it at one input. -/
def plantFeedsWrong : ChangeSpec := { name := "plantFeeds", fn := fun _ => fun
  | [d] => { results := [.lit (.bool false)], args := [d] }
  | _ => none }
def PlantFeedsWrongFalsely : Prop := plantFeedsRow.holds Try.pinned (OpenSpec.ofChange plantFeedsWrong)

/-- 'letterbaglaw31.PlantMoves': WHATEVER THE INPUT: true; the input reads as it did. -/
def plantMovesSpec : ChangeSpec := { name := "plantMoves", fn := fun _ => fun
  | [d1, d2] => { results := [.lit (.bool true)], args := [d1, d2] }
  | _ => none }
def plantMovesRow : OpenClaim := { program := "ytegbbhaghlcckaa", sum := "a11f8a8da3d7b1d69c0ad7fbcea48c9acedb81a878955484703508ca1cf5b984", func := "letterbag/letterbaglaw31.PlantMoves", spec := "plantMoves", unfollowed := true, recurses := true, plainKeys := false, apart := false }
def PlantMovesSaid : Prop := plantMovesRow.holds Try.pinned (OpenSpec.ofChange plantMovesSpec)

/-- ITS FALSE NEIGHBOUR: 'it returns false'. Refute it at one input. -/
def plantMovesWrong : ChangeSpec := { name := "plantMoves", fn := fun _ => fun
  | [d1, d2] => { results := [.lit (.bool false)], args := [d1, d2] }
  | _ => none }
def PlantMovesWrongFalsely : Prop := plantMovesRow.holds Try.pinned (OpenSpec.ofChange plantMovesWrong)

/-- 'letterbaglaw31.PlantFaster': WHATEVER THE INPUT: true; the input reads as it did. -/
def plantFasterSpec : ChangeSpec := { name := "plantFaster", fn := fun _ => fun
  | [d1, d2] => { results := [.lit (.bool true)], args := [d1, d2] }
  | _ => none }
def plantFasterRow : OpenClaim := { program := "ytegbbhaghlcckaa", sum := "a11f8a8da3d7b1d69c0ad7fbcea48c9acedb81a878955484703508ca1cf5b984", func := "letterbag/letterbaglaw31.PlantFaster", spec := "plantFaster", unfollowed := true, recurses := true, plainKeys := false, apart := false }
def PlantFasterSaid : Prop := plantFasterRow.holds Try.pinned (OpenSpec.ofChange plantFasterSpec)

/-- ITS FALSE NEIGHBOUR: 'it returns false'. Refute it at one input. -/
def plantFasterWrong : ChangeSpec := { name := "plantFaster", fn := fun _ => fun
  | [d1, d2] => { results := [.lit (.bool false)], args := [d1, d2] }
  | _ => none }
def PlantFasterWrongFalsely : Prop := plantFasterRow.holds Try.pinned (OpenSpec.ofChange plantFasterWrong)

/-- 'letterbaglaw31.PlantWrong': WHATEVER THE INPUT: true; the input reads as it did. -/
def plantWrongSpec : ChangeSpec := { name := "plantWrong", fn := fun _ => fun
  | [d1, d2] => { results := [.lit (.bool true)], args := [d1, d2] }
  | _ => none }
def plantWrongRow : OpenClaim := { program := "ytegbbhaghlcckaa", sum := "a11f8a8da3d7b1d69c0ad7fbcea48c9acedb81a878955484703508ca1cf5b984", func := "letterbag/letterbaglaw31.PlantWrong", spec := "plantWrong", unfollowed := true, recurses := true, plainKeys := false, apart := false }
def PlantWrongSaid : Prop := plantWrongRow.holds Try.pinned (OpenSpec.ofChange plantWrongSpec)

/-- ITS FALSE NEIGHBOUR: 'it returns false'. Refute it at one input. -/
def plantWrongWrong : ChangeSpec := { name := "plantWrong", fn := fun _ => fun
  | [d1, d2] => { results := [.lit (.bool false)], args := [d1, d2] }
  | _ => none }
def PlantWrongWrongFalsely : Prop := plantWrongRow.holds Try.pinned (OpenSpec.ofChange plantWrongWrong)

/-- 'letterbaglaw31.PlantRoutes': WHATEVER THE INPUT: true; the input reads as it did. -/
def plantRoutesSpec : ChangeSpec := { name := "plantRoutes", fn := fun _ => fun
  | [d1, d2, d3] => { results := [.lit (.bool true)], args := [d1, d2, d3] }
  | _ => none }
def plantRoutesRow : OpenClaim := { program := "ytegbbhaghlcckaa", sum := "a11f8a8da3d7b1d69c0ad7fbcea48c9acedb81a878955484703508ca1cf5b984", func := "letterbag/letterbaglaw31.PlantRoutes", spec := "plantRoutes", unfollowed := true, recurses := true, plainKeys := false, apart := false }
def PlantRoutesSaid : Prop := plantRoutesRow.holds Try.pinned (OpenSpec.ofChange plantRoutesSpec)

/-- ITS FALSE NEIGHBOUR: 'it returns false'. Refute it at one input. -/
def plantRoutesWrong : ChangeSpec := { name := "plantRoutes", fn := fun _ => fun
  | [d1, d2, d3] => { results := [.lit (.bool false)], args := [d1, d2, d3] }
  | _ => none }
def PlantRoutesWrongFalsely : Prop := plantRoutesRow.holds Try.pinned (OpenSpec.ofChange plantRoutesWrong)

/- THE SECOND FORM. 'bulk': how many values and letters a reading holds, each counted each time it is reached (what is shared counts as often as it is met; a slice's spare places count too). A statement '..UptoSaid' is the law's where the arguments, and the package variables that the reading takes, are together of bulk at most 1048576: NARROWER than '..Said'. Prove '..Said' where nothing that the law and all that it calls make is longer than what came in: it says more and counts as full. Else prove '..UptoSaid'. A law counts once. -/
mutual
def uptoBulk {H : Type} : DataW H → Nat
  | .lit (.string bytes) => bytes.length + 1
  | .lit _ => 1
  | .nil => 1
  | .ptr d => uptoBulk d + 1
  | .slice elems spare => uptoBulkAll elems + uptoBulkAll spare + 1
  | .agg parts => uptoBulkAll parts + 1
  | .iface _ d => uptoBulk d + 1
  | .map entries => uptoBulkEntries entries + 1
  | .held _ => 1
def uptoBulkAll {H : Type} : List (DataW H) → Nat
  | [] => 0
  | d :: r => uptoBulk d + uptoBulkAll r
def uptoBulkEntries {H : Type} : List (Lit × DataW H) → Nat
  | [] => 0
  | x :: r => uptoBulkEntry x + uptoBulkEntries r
def uptoBulkEntry {H : Type} : Lit × DataW H → Nat
  | (.string bytes, d) => bytes.length + uptoBulk d + 1
  | (_, d) => uptoBulk d + 1
 end
def uptoSmall : (H : Type) → List (DataW H) → Bool := fun _ ds => decide (uptoBulkAll ds ≤ 1048576)
def OpenSpec.upto (s : _root_.Go.ChangeSpec) : _root_.Go.OpenSpec := { _root_.Go.OpenSpec.ofChange s with cond := some uptoSmall }

/-- 'letterbagtop.TopOrdered', WHERE WHAT IT READS IS OF BULK AT MOST 1048576: true; the input reads as it did. -/
def topOrderedUptoRow : OpenClaim := { program := "ytegbbhaghlcckaa", sum := "a11f8a8da3d7b1d69c0ad7fbcea48c9acedb81a878955484703508ca1cf5b984", func := "letterbag/letterbagtop.TopOrdered", spec := "topOrdered", unfollowed := true, recurses := true, plainKeys := false, apart := false, narrowed := true }
def TopOrderedUptoSaid : Prop := topOrderedUptoRow.holds Try.pinned (OpenSpec.upto topOrderedSpec)

/-- 'letterbaglaw29.SorterKeeps', WHERE WHAT IT READS IS OF BULK AT MOST 1048576: true; the input reads as it did. -/
def sorterKeepsUptoRow : OpenClaim := { program := "ytegbbhaghlcckaa", sum := "a11f8a8da3d7b1d69c0ad7fbcea48c9acedb81a878955484703508ca1cf5b984", func := "letterbag/letterbaglaw29.SorterKeeps", spec := "sorterKeeps", unfollowed := true, recurses := true, plainKeys := false, apart := false, narrowed := true }
def SorterKeepsUptoSaid : Prop := sorterKeepsUptoRow.holds Try.pinned (OpenSpec.upto sorterKeepsSpec)

/-- 'letterbaglaw29.SorterEvents', WHERE WHAT IT READS IS OF BULK AT MOST 1048576: true; the input reads as it did. -/
def sorterEventsUptoRow : OpenClaim := { program := "ytegbbhaghlcckaa", sum := "a11f8a8da3d7b1d69c0ad7fbcea48c9acedb81a878955484703508ca1cf5b984", func := "letterbag/letterbaglaw29.SorterEvents", spec := "sorterEvents", unfollowed := true, recurses := true, plainKeys := false, apart := false, narrowed := true }
def SorterEventsUptoSaid : Prop := sorterEventsUptoRow.holds Try.pinned (OpenSpec.upto sorterEventsSpec)

/-- 'letterbaglaw29.SorterNeeds', WHERE WHAT IT READS IS OF BULK AT MOST 1048576: true; the input reads as it did. -/
def sorterNeedsUptoRow : OpenClaim := { program := "ytegbbhaghlcckaa", sum := "a11f8a8da3d7b1d69c0ad7fbcea48c9acedb81a878955484703508ca1cf5b984", func := "letterbag/letterbaglaw29.SorterNeeds", spec := "sorterNeeds", unfollowed := true, recurses := true, plainKeys := false, apart := false, narrowed := true }
def SorterNeedsUptoSaid : Prop := sorterNeedsUptoRow.holds Try.pinned (OpenSpec.upto sorterNeedsSpec)

/-- 'letterbaglaw29.SorterOrder', WHERE WHAT IT READS IS OF BULK AT MOST 1048576: true; the input reads as it did. -/
def sorterOrderUptoRow : OpenClaim := { program := "ytegbbhaghlcckaa", sum := "a11f8a8da3d7b1d69c0ad7fbcea48c9acedb81a878955484703508ca1cf5b984", func := "letterbag/letterbaglaw29.SorterOrder", spec := "sorterOrder", unfollowed := true, recurses := true, plainKeys := false, apart := false, narrowed := true }
def SorterOrderUptoSaid : Prop := sorterOrderUptoRow.holds Try.pinned (OpenSpec.upto sorterOrderSpec)

/-- 'letterbaglaw29.SorterPasses', WHERE WHAT IT READS IS OF BULK AT MOST 1048576: true; the input reads as it did. -/
def sorterPassesUptoRow : OpenClaim := { program := "ytegbbhaghlcckaa", sum := "a11f8a8da3d7b1d69c0ad7fbcea48c9acedb81a878955484703508ca1cf5b984", func := "letterbag/letterbaglaw29.SorterPasses", spec := "sorterPasses", unfollowed := true, recurses := true, plainKeys := false, apart := false, narrowed := true }
def SorterPassesUptoSaid : Prop := sorterPassesUptoRow.holds Try.pinned (OpenSpec.upto sorterPassesSpec)

/-- 'letterbaglaw29.SorterWrong', WHERE WHAT IT READS IS OF BULK AT MOST 1048576: true; the input reads as it did. -/
def sorterWrongUptoRow : OpenClaim := { program := "ytegbbhaghlcckaa", sum := "a11f8a8da3d7b1d69c0ad7fbcea48c9acedb81a878955484703508ca1cf5b984", func := "letterbag/letterbaglaw29.SorterWrong", spec := "sorterWrong", unfollowed := true, recurses := true, plainKeys := false, apart := false, narrowed := true }
def SorterWrongUptoSaid : Prop := sorterWrongUptoRow.holds Try.pinned (OpenSpec.upto sorterWrongSpec)

/-- 'letterbaglaw29.SorterRoom', WHERE WHAT IT READS IS OF BULK AT MOST 1048576: true; the input reads as it did. -/
def sorterRoomUptoRow : OpenClaim := { program := "ytegbbhaghlcckaa", sum := "a11f8a8da3d7b1d69c0ad7fbcea48c9acedb81a878955484703508ca1cf5b984", func := "letterbag/letterbaglaw29.SorterRoom", spec := "sorterRoom", unfollowed := true, recurses := true, plainKeys := false, apart := false, narrowed := true }
def SorterRoomUptoSaid : Prop := sorterRoomUptoRow.holds Try.pinned (OpenSpec.upto sorterRoomSpec)

/-- 'letterbaglaw31.PlantWhere', WHERE WHAT IT READS IS OF BULK AT MOST 1048576: true; the input reads as it did. -/
def plantWhereUptoRow : OpenClaim := { program := "ytegbbhaghlcckaa", sum := "a11f8a8da3d7b1d69c0ad7fbcea48c9acedb81a878955484703508ca1cf5b984", func := "letterbag/letterbaglaw31.PlantWhere", spec := "plantWhere", unfollowed := true, recurses := true, plainKeys := false, apart := false, narrowed := true }
def PlantWhereUptoSaid : Prop := plantWhereUptoRow.holds Try.pinned (OpenSpec.upto plantWhereSpec)

/-- 'letterbaglaw31.PlantSmall', WHERE WHAT IT READS IS OF BULK AT MOST 1048576: true; the input reads as it did. -/
def plantSmallUptoRow : OpenClaim := { program := "ytegbbhaghlcckaa", sum := "a11f8a8da3d7b1d69c0ad7fbcea48c9acedb81a878955484703508ca1cf5b984", func := "letterbag/letterbaglaw31.PlantSmall", spec := "plantSmall", unfollowed := true, recurses := true, plainKeys := false, apart := false, narrowed := true }
def PlantSmallUptoSaid : Prop := plantSmallUptoRow.holds Try.pinned (OpenSpec.upto plantSmallSpec)

/-- 'letterbaglaw31.PlantKeeps', WHERE WHAT IT READS IS OF BULK AT MOST 1048576: true; the input reads as it did. -/
def plantKeepsUptoRow : OpenClaim := { program := "ytegbbhaghlcckaa", sum := "a11f8a8da3d7b1d69c0ad7fbcea48c9acedb81a878955484703508ca1cf5b984", func := "letterbag/letterbaglaw31.PlantKeeps", spec := "plantKeeps", unfollowed := true, recurses := true, plainKeys := false, apart := false, narrowed := true }
def PlantKeepsUptoSaid : Prop := plantKeepsUptoRow.holds Try.pinned (OpenSpec.upto plantKeepsSpec)

/-- 'letterbaglaw31.PlantTimes', WHERE WHAT IT READS IS OF BULK AT MOST 1048576: true; the input reads as it did. -/
def plantTimesUptoRow : OpenClaim := { program := "ytegbbhaghlcckaa", sum := "a11f8a8da3d7b1d69c0ad7fbcea48c9acedb81a878955484703508ca1cf5b984", func := "letterbag/letterbaglaw31.PlantTimes", spec := "plantTimes", unfollowed := true, recurses := true, plainKeys := false, apart := false, narrowed := true }
def PlantTimesUptoSaid : Prop := plantTimesUptoRow.holds Try.pinned (OpenSpec.upto plantTimesSpec)

/-- 'letterbaglaw31.PlantFeeds', WHERE WHAT IT READS IS OF BULK AT MOST 1048576: true; the input reads as it did. -/
def plantFeedsUptoRow : OpenClaim := { program := "ytegbbhaghlcckaa", sum := "a11f8a8da3d7b1d69c0ad7fbcea48c9acedb81a878955484703508ca1cf5b984", func := "letterbag/letterbaglaw31.PlantFeeds", spec := "plantFeeds", unfollowed := true, recurses := true, plainKeys := false, apart := false, narrowed := true }
def PlantFeedsUptoSaid : Prop := plantFeedsUptoRow.holds Try.pinned (OpenSpec.upto plantFeedsSpec)

/-- 'letterbaglaw31.PlantMoves', WHERE WHAT IT READS IS OF BULK AT MOST 1048576: true; the input reads as it did. -/
def plantMovesUptoRow : OpenClaim := { program := "ytegbbhaghlcckaa", sum := "a11f8a8da3d7b1d69c0ad7fbcea48c9acedb81a878955484703508ca1cf5b984", func := "letterbag/letterbaglaw31.PlantMoves", spec := "plantMoves", unfollowed := true, recurses := true, plainKeys := false, apart := false, narrowed := true }
def PlantMovesUptoSaid : Prop := plantMovesUptoRow.holds Try.pinned (OpenSpec.upto plantMovesSpec)

/-- 'letterbaglaw31.PlantFaster', WHERE WHAT IT READS IS OF BULK AT MOST 1048576: true; the input reads as it did. -/
def plantFasterUptoRow : OpenClaim := { program := "ytegbbhaghlcckaa", sum := "a11f8a8da3d7b1d69c0ad7fbcea48c9acedb81a878955484703508ca1cf5b984", func := "letterbag/letterbaglaw31.PlantFaster", spec := "plantFaster", unfollowed := true, recurses := true, plainKeys := false, apart := false, narrowed := true }
def PlantFasterUptoSaid : Prop := plantFasterUptoRow.holds Try.pinned (OpenSpec.upto plantFasterSpec)

/-- 'letterbaglaw31.PlantWrong', WHERE WHAT IT READS IS OF BULK AT MOST 1048576: true; the input reads as it did. -/
def plantWrongUptoRow : OpenClaim := { program := "ytegbbhaghlcckaa", sum := "a11f8a8da3d7b1d69c0ad7fbcea48c9acedb81a878955484703508ca1cf5b984", func := "letterbag/letterbaglaw31.PlantWrong", spec := "plantWrong", unfollowed := true, recurses := true, plainKeys := false, apart := false, narrowed := true }
def PlantWrongUptoSaid : Prop := plantWrongUptoRow.holds Try.pinned (OpenSpec.upto plantWrongSpec)

/-- 'letterbaglaw31.PlantRoutes', WHERE WHAT IT READS IS OF BULK AT MOST 1048576: true; the input reads as it did. -/
def plantRoutesUptoRow : OpenClaim := { program := "ytegbbhaghlcckaa", sum := "a11f8a8da3d7b1d69c0ad7fbcea48c9acedb81a878955484703508ca1cf5b984", func := "letterbag/letterbaglaw31.PlantRoutes", spec := "plantRoutes", unfollowed := true, recurses := true, plainKeys := false, apart := false, narrowed := true }
def PlantRoutesUptoSaid : Prop := plantRoutesUptoRow.holds Try.pinned (OpenSpec.upto plantRoutesSpec)

end Rows
end Go.Proofs.Ytegbbhaghlcckaa
