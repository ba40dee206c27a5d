/-
  NARROWER THAN 'FOR EVERY INPUT', by the rows' own cells (each row's printed sentence says how): DeliverApart: laid · DeliverMore: laid · DeliverNext: laid · DeliverYears: laid · DeliverValid: laid · DeliverSmall: laid · DeliverRules: laid · DeliverWrong: laid.
  DERIVED. THE GIVEN ROWS OF THIS SEAT. 8 by the template 'for every input the law returns true; each argument reads behind the call as it read before'; 0 by the template 'total and deterministic' (their statements: YtghoaglolhdoeaaDoorTotals.lean).
  GIVEN WITH THE SEED: the statements are not yours to turn. If you find one false, say at which input.
  Laid BY PROGRAM, IN A SANDBOX (cutbox-rows.mjs): the forced cells as the released guide's own fill.sh prints them over the translation 9d450ac1b57b26eb… (all of the seat's roots in one cut). By AI agents, Wed Nov 11 2026. No macro, syntax, notation, axiom, sorry.
-/
import Derived.Test.YtghoaglolhdoeaaDoorChecked
import GoSem.Claim
import GoSem.ClaimJoined
import GoSem.ClaimMapViews
import Derived.JoinedTies
import Derived.KernelRfl
namespace Go.Proofs.YtghoaglolhdoeaaDoor
/- THE CELL 'sum', in the pinned program and in every row, IS THE sha256 OF THE DUMP (.gsa) THAT YtghoaglolhdoeaaDoorProg.lean LOADS. Nothing in Lean hashes anything: it is a label: what it is worth is what the hold of that sum in a sandbox is worth. -/
noncomputable def Tryd.pinned : Pinned := { name := "ytghoaglolhdoeaadoor", sum := "9d450ac1b57b26ebe2a318be511485242e5dde2446a3ab50c65632b55e4c7e52", checked := Tryd.checked }
namespace Rows
def none {H : Type} : Left H := { results := [], args := [] }

/- WHAT THE LISTED PACKAGE-LEVEL VARIABLES READ AS WHEN THE CALL BEGINS. Each datum BY PROGRAM (the guide's laid-datum.mjs) off the statement by which the dump's own 'gosem.cut.vars' lays the variable. In a bare row this is a premise. The card (YtghoaglolhdoeaaDoorCards.lean) ties it to the program's text. -/
def laid_letterbag_civil_ahead {H : Type} : DataW H := .agg [.lit (.int .i64 0), .lit (.int .i64 31), .lit (.int .i64 59), .lit (.int .i64 90), .lit (.int .i64 120), .lit (.int .i64 151), .lit (.int .i64 181), .lit (.int .i64 212), .lit (.int .i64 243), .lit (.int .i64 273), .lit (.int .i64 304), .lit (.int .i64 334), .lit (.int .i64 365)]

/-- 'letterbaglaw13.DeliverApart': WHATEVER THE INPUT: true; the input reads as it did. -/
def deliverApartSpec : ChangeSpec := { name := "deliverApart", fn := fun _ => fun
  | [d1, d2, d3] => { results := [.lit (.bool true)], args := [d1, d2, d3] }
  | _ => none }
def deliverApartRow : OpenClaim := { program := "ytghoaglolhdoeaadoor", sum := "9d450ac1b57b26ebe2a318be511485242e5dde2446a3ab50c65632b55e4c7e52", func := "letterbag/letterbaglaw13.DeliverApart", spec := "deliverApart", unfollowed := true, recurses := true, named := ["letterbag/civil.ahead"], apart := false, laid := [("letterbag/civil.ahead", laid_letterbag_civil_ahead)] }
def DeliverApartSaid : Prop := deliverApartRow.holds Tryd.pinned (OpenSpec.ofChange deliverApartSpec)

/-- ITS FALSE NEIGHBOUR: 'it returns false'. Refute it at one input. -/
def deliverApartWrong : ChangeSpec := { name := "deliverApart", fn := fun _ => fun
  | [d1, d2, d3] => { results := [.lit (.bool false)], args := [d1, d2, d3] }
  | _ => none }
def DeliverApartWrongFalsely : Prop := deliverApartRow.holds Tryd.pinned (OpenSpec.ofChange deliverApartWrong)

/-- 'letterbaglaw13.DeliverMore': WHATEVER THE INPUT: true; the input reads as it did. -/
def deliverMoreSpec : ChangeSpec := { name := "deliverMore", fn := fun _ => fun
  | [d1, d2, d3, d4] => { results := [.lit (.bool true)], args := [d1, d2, d3, d4] }
  | _ => none }
def deliverMoreRow : OpenClaim := { program := "ytghoaglolhdoeaadoor", sum := "9d450ac1b57b26ebe2a318be511485242e5dde2446a3ab50c65632b55e4c7e52", func := "letterbag/letterbaglaw13.DeliverMore", spec := "deliverMore", unfollowed := true, recurses := true, named := ["letterbag/civil.ahead"], apart := false, laid := [("letterbag/civil.ahead", laid_letterbag_civil_ahead)] }
def DeliverMoreSaid : Prop := deliverMoreRow.holds Tryd.pinned (OpenSpec.ofChange deliverMoreSpec)

/-- ITS FALSE NEIGHBOUR: 'it returns false'. Refute it at one input. -/
def deliverMoreWrong : ChangeSpec := { name := "deliverMore", fn := fun _ => fun
  | [d1, d2, d3, d4] => { results := [.lit (.bool false)], args := [d1, d2, d3, d4] }
  | _ => none }
def DeliverMoreWrongFalsely : Prop := deliverMoreRow.holds Tryd.pinned (OpenSpec.ofChange deliverMoreWrong)

/-- 'letterbaglaw13.DeliverNext': WHATEVER THE INPUT: true; the input reads as it did. -/
def deliverNextSpec : ChangeSpec := { name := "deliverNext", fn := fun _ => fun
  | [d1, d2, d3, d4] => { results := [.lit (.bool true)], args := [d1, d2, d3, d4] }
  | _ => none }
def deliverNextRow : OpenClaim := { program := "ytghoaglolhdoeaadoor", sum := "9d450ac1b57b26ebe2a318be511485242e5dde2446a3ab50c65632b55e4c7e52", func := "letterbag/letterbaglaw13.DeliverNext", spec := "deliverNext", unfollowed := true, recurses := true, named := ["letterbag/civil.ahead"], apart := false, laid := [("letterbag/civil.ahead", laid_letterbag_civil_ahead)] }
def DeliverNextSaid : Prop := deliverNextRow.holds Tryd.pinned (OpenSpec.ofChange deliverNextSpec)

/-- ITS FALSE NEIGHBOUR: 'it returns false'. Refute it at one input. -/
def deliverNextWrong : ChangeSpec := { name := "deliverNext", fn := fun _ => fun
  | [d1, d2, d3, d4] => { results := [.lit (.bool false)], args := [d1, d2, d3, d4] }
  | _ => none }
def DeliverNextWrongFalsely : Prop := deliverNextRow.holds Tryd.pinned (OpenSpec.ofChange deliverNextWrong)

/-- 'letterbaglaw13.DeliverYears': WHATEVER THE INPUT: true; the input reads as it did. -/
def deliverYearsSpec : ChangeSpec := { name := "deliverYears", fn := fun _ => fun
  | [d1, d2, d3] => { results := [.lit (.bool true)], args := [d1, d2, d3] }
  | _ => none }
def deliverYearsRow : OpenClaim := { program := "ytghoaglolhdoeaadoor", sum := "9d450ac1b57b26ebe2a318be511485242e5dde2446a3ab50c65632b55e4c7e52", func := "letterbag/letterbaglaw13.DeliverYears", spec := "deliverYears", unfollowed := true, recurses := true, named := ["letterbag/civil.ahead"], apart := false, laid := [("letterbag/civil.ahead", laid_letterbag_civil_ahead)] }
def DeliverYearsSaid : Prop := deliverYearsRow.holds Tryd.pinned (OpenSpec.ofChange deliverYearsSpec)

/-- ITS FALSE NEIGHBOUR: 'it returns false'. Refute it at one input. -/
def deliverYearsWrong : ChangeSpec := { name := "deliverYears", fn := fun _ => fun
  | [d1, d2, d3] => { results := [.lit (.bool false)], args := [d1, d2, d3] }
  | _ => none }
def DeliverYearsWrongFalsely : Prop := deliverYearsRow.holds Tryd.pinned (OpenSpec.ofChange deliverYearsWrong)

/-- 'letterbaglaw13.DeliverValid': WHATEVER THE INPUT: true; the input reads as it did. -/
def deliverValidSpec : ChangeSpec := { name := "deliverValid", fn := fun _ => fun
  | [d1, d2] => { results := [.lit (.bool true)], args := [d1, d2] }
  | _ => none }
def deliverValidRow : OpenClaim := { program := "ytghoaglolhdoeaadoor", sum := "9d450ac1b57b26ebe2a318be511485242e5dde2446a3ab50c65632b55e4c7e52", func := "letterbag/letterbaglaw13.DeliverValid", spec := "deliverValid", unfollowed := true, recurses := true, named := ["letterbag/civil.ahead"], apart := false, laid := [("letterbag/civil.ahead", laid_letterbag_civil_ahead)] }
def DeliverValidSaid : Prop := deliverValidRow.holds Tryd.pinned (OpenSpec.ofChange deliverValidSpec)

/-- ITS FALSE NEIGHBOUR: 'it returns false'. Refute it at one input. -/
def deliverValidWrong : ChangeSpec := { name := "deliverValid", fn := fun _ => fun
  | [d1, d2] => { results := [.lit (.bool false)], args := [d1, d2] }
  | _ => none }
def DeliverValidWrongFalsely : Prop := deliverValidRow.holds Tryd.pinned (OpenSpec.ofChange deliverValidWrong)

/-- 'letterbaglaw13.DeliverSmall': WHATEVER THE INPUT: true; the input reads as it did. -/
def deliverSmallSpec : ChangeSpec := { name := "deliverSmall", fn := fun _ => fun
  | [] => { results := [.lit (.bool true)], args := [] }
  | _ => none }
def deliverSmallRow : OpenClaim := { program := "ytghoaglolhdoeaadoor", sum := "9d450ac1b57b26ebe2a318be511485242e5dde2446a3ab50c65632b55e4c7e52", func := "letterbag/letterbaglaw13.DeliverSmall", spec := "deliverSmall", unfollowed := true, recurses := true, named := ["letterbag/civil.ahead"], apart := false, laid := [("letterbag/civil.ahead", laid_letterbag_civil_ahead)] }
def DeliverSmallSaid : Prop := deliverSmallRow.holds Tryd.pinned (OpenSpec.ofChange deliverSmallSpec)

/-- ITS FALSE NEIGHBOUR: 'it returns false'. Refute it at one input. -/
def deliverSmallWrong : ChangeSpec := { name := "deliverSmall", fn := fun _ => fun
  | [] => { results := [.lit (.bool false)], args := [] }
  | _ => none }
def DeliverSmallWrongFalsely : Prop := deliverSmallRow.holds Tryd.pinned (OpenSpec.ofChange deliverSmallWrong)

/-- 'letterbaglaw13.DeliverRules': WHATEVER THE INPUT: true; the input reads as it did. -/
def deliverRulesSpec : ChangeSpec := { name := "deliverRules", fn := fun _ => fun
  | [d1, d2, d3] => { results := [.lit (.bool true)], args := [d1, d2, d3] }
  | _ => none }
def deliverRulesRow : OpenClaim := { program := "ytghoaglolhdoeaadoor", sum := "9d450ac1b57b26ebe2a318be511485242e5dde2446a3ab50c65632b55e4c7e52", func := "letterbag/letterbaglaw13.DeliverRules", spec := "deliverRules", unfollowed := true, recurses := true, named := ["letterbag/civil.ahead"], apart := false, laid := [("letterbag/civil.ahead", laid_letterbag_civil_ahead)] }
def DeliverRulesSaid : Prop := deliverRulesRow.holds Tryd.pinned (OpenSpec.ofChange deliverRulesSpec)

/-- ITS FALSE NEIGHBOUR: 'it returns false'. Refute it at one input. -/
def deliverRulesWrong : ChangeSpec := { name := "deliverRules", fn := fun _ => fun
  | [d1, d2, d3] => { results := [.lit (.bool false)], args := [d1, d2, d3] }
  | _ => none }
def DeliverRulesWrongFalsely : Prop := deliverRulesRow.holds Tryd.pinned (OpenSpec.ofChange deliverRulesWrong)

/-- 'letterbaglaw13.DeliverWrong': WHATEVER THE INPUT: true; the input reads as it did. -/
def deliverWrongSpec : ChangeSpec := { name := "deliverWrong", fn := fun _ => fun
  | [d1, d2, d3] => { results := [.lit (.bool true)], args := [d1, d2, d3] }
  | _ => none }
def deliverWrongRow : OpenClaim := { program := "ytghoaglolhdoeaadoor", sum := "9d450ac1b57b26ebe2a318be511485242e5dde2446a3ab50c65632b55e4c7e52", func := "letterbag/letterbaglaw13.DeliverWrong", spec := "deliverWrong", unfollowed := true, recurses := true, named := ["letterbag/civil.ahead"], apart := false, laid := [("letterbag/civil.ahead", laid_letterbag_civil_ahead)] }
def DeliverWrongSaid : Prop := deliverWrongRow.holds Tryd.pinned (OpenSpec.ofChange deliverWrongSpec)

/-- ITS FALSE NEIGHBOUR: 'it returns false'. Refute it at one input. -/
def deliverWrongWrong : ChangeSpec := { name := "deliverWrong", fn := fun _ => fun
  | [d1, d2, d3] => { results := [.lit (.bool false)], args := [d1, d2, d3] }
  | _ => none }
def DeliverWrongWrongFalsely : Prop := deliverWrongRow.holds Tryd.pinned (OpenSpec.ofChange deliverWrongWrong)

/- THE SECOND FORM. 'bulk': how many values and letters a reading holds, each counted each time it is reached (what is shared counts as often as it is met; a slice's spare places count too). A statement '..UptoSaid' is the law's where the arguments, and the package variables that the reading takes, are together of bulk at most 1048576: NARROWER than '..Said'. Prove '..Said' where nothing that the law and all that it calls make is longer than what came in: it says more and counts as full. Else prove '..UptoSaid'. A law counts once. -/
mutual
def uptoBulk {H : Type} : DataW H → Nat
  | .lit (.string bytes) => bytes.length + 1
  | .lit _ => 1
  | .nil => 1
  | .ptr d => uptoBulk d + 1
  | .slice elems spare => uptoBulkAll elems + uptoBulkAll spare + 1
  | .agg parts => uptoBulkAll parts + 1
  | .iface _ d => uptoBulk d + 1
  | .map entries => uptoBulkEntries entries + 1
  | .held _ => 1
def uptoBulkAll {H : Type} : List (DataW H) → Nat
  | [] => 0
  | d :: r => uptoBulk d + uptoBulkAll r
def uptoBulkEntries {H : Type} : List (Lit × DataW H) → Nat
  | [] => 0
  | x :: r => uptoBulkEntry x + uptoBulkEntries r
def uptoBulkEntry {H : Type} : Lit × DataW H → Nat
  | (.string bytes, d) => bytes.length + uptoBulk d + 1
  | (_, d) => uptoBulk d + 1
 end
def uptoSmall : (H : Type) → List (DataW H) → Bool := fun _ ds => decide (uptoBulkAll ds ≤ 1048576)
def OpenSpec.upto (s : _root_.Go.ChangeSpec) : _root_.Go.OpenSpec := { _root_.Go.OpenSpec.ofChange s with cond := some uptoSmall }

/-- 'letterbaglaw13.DeliverApart', WHERE WHAT IT READS IS OF BULK AT MOST 1048576: true; the input reads as it did. -/
def deliverApartUptoRow : OpenClaim := { program := "ytghoaglolhdoeaadoor", sum := "9d450ac1b57b26ebe2a318be511485242e5dde2446a3ab50c65632b55e4c7e52", func := "letterbag/letterbaglaw13.DeliverApart", spec := "deliverApart", unfollowed := true, recurses := true, named := ["letterbag/civil.ahead"], apart := false, laid := [("letterbag/civil.ahead", laid_letterbag_civil_ahead)], narrowed := true }
def DeliverApartUptoSaid : Prop := deliverApartUptoRow.holds Tryd.pinned (OpenSpec.upto deliverApartSpec)

/-- 'letterbaglaw13.DeliverMore', WHERE WHAT IT READS IS OF BULK AT MOST 1048576: true; the input reads as it did. -/
def deliverMoreUptoRow : OpenClaim := { program := "ytghoaglolhdoeaadoor", sum := "9d450ac1b57b26ebe2a318be511485242e5dde2446a3ab50c65632b55e4c7e52", func := "letterbag/letterbaglaw13.DeliverMore", spec := "deliverMore", unfollowed := true, recurses := true, named := ["letterbag/civil.ahead"], apart := false, laid := [("letterbag/civil.ahead", laid_letterbag_civil_ahead)], narrowed := true }
def DeliverMoreUptoSaid : Prop := deliverMoreUptoRow.holds Tryd.pinned (OpenSpec.upto deliverMoreSpec)

/-- 'letterbaglaw13.DeliverNext', WHERE WHAT IT READS IS OF BULK AT MOST 1048576: true; the input reads as it did. -/
def deliverNextUptoRow : OpenClaim := { program := "ytghoaglolhdoeaadoor", sum := "9d450ac1b57b26ebe2a318be511485242e5dde2446a3ab50c65632b55e4c7e52", func := "letterbag/letterbaglaw13.DeliverNext", spec := "deliverNext", unfollowed := true, recurses := true, named := ["letterbag/civil.ahead"], apart := false, laid := [("letterbag/civil.ahead", laid_letterbag_civil_ahead)], narrowed := true }
def DeliverNextUptoSaid : Prop := deliverNextUptoRow.holds Tryd.pinned (OpenSpec.upto deliverNextSpec)

/-- 'letterbaglaw13.DeliverYears', WHERE WHAT IT READS IS OF BULK AT MOST 1048576: true; the input reads as it did. -/
def deliverYearsUptoRow : OpenClaim := { program := "ytghoaglolhdoeaadoor", sum := "9d450ac1b57b26ebe2a318be511485242e5dde2446a3ab50c65632b55e4c7e52", func := "letterbag/letterbaglaw13.DeliverYears", spec := "deliverYears", unfollowed := true, recurses := true, named := ["letterbag/civil.ahead"], apart := false, laid := [("letterbag/civil.ahead", laid_letterbag_civil_ahead)], narrowed := true }
def DeliverYearsUptoSaid : Prop := deliverYearsUptoRow.holds Tryd.pinned (OpenSpec.upto deliverYearsSpec)

/-- 'letterbaglaw13.DeliverValid', WHERE WHAT IT READS IS OF BULK AT MOST 1048576: true; the input reads as it did. -/
def deliverValidUptoRow : OpenClaim := { program := "ytghoaglolhdoeaadoor", sum := "9d450ac1b57b26ebe2a318be511485242e5dde2446a3ab50c65632b55e4c7e52", func := "letterbag/letterbaglaw13.DeliverValid", spec := "deliverValid", unfollowed := true, recurses := true, named := ["letterbag/civil.ahead"], apart := false, laid := [("letterbag/civil.ahead", laid_letterbag_civil_ahead)], narrowed := true }
def DeliverValidUptoSaid : Prop := deliverValidUptoRow.holds Tryd.pinned (OpenSpec.upto deliverValidSpec)

/-- 'letterbaglaw13.DeliverSmall', WHERE WHAT IT READS IS OF BULK AT MOST 1048576: true; the input reads as it did. -/
def deliverSmallUptoRow : OpenClaim := { program := "ytghoaglolhdoeaadoor", sum := "9d450ac1b57b26ebe2a318be511485242e5dde2446a3ab50c65632b55e4c7e52", func := "letterbag/letterbaglaw13.DeliverSmall", spec := "deliverSmall", unfollowed := true, recurses := true, named := ["letterbag/civil.ahead"], apart := false, laid := [("letterbag/civil.ahead", laid_letterbag_civil_ahead)], narrowed := true }
def DeliverSmallUptoSaid : Prop := deliverSmallUptoRow.holds Tryd.pinned (OpenSpec.upto deliverSmallSpec)

/-- 'letterbaglaw13.DeliverRules', WHERE WHAT IT READS IS OF BULK AT MOST 1048576: true; the input reads as it did. -/
def deliverRulesUptoRow : OpenClaim := { program := "ytghoaglolhdoeaadoor", sum := "9d450ac1b57b26ebe2a318be511485242e5dde2446a3ab50c65632b55e4c7e52", func := "letterbag/letterbaglaw13.DeliverRules", spec := "deliverRules", unfollowed := true, recurses := true, named := ["letterbag/civil.ahead"], apart := false, laid := [("letterbag/civil.ahead", laid_letterbag_civil_ahead)], narrowed := true }
def DeliverRulesUptoSaid : Prop := deliverRulesUptoRow.holds Tryd.pinned (OpenSpec.upto deliverRulesSpec)

/-- 'letterbaglaw13.DeliverWrong', WHERE WHAT IT READS IS OF BULK AT MOST 1048576: true; the input reads as it did. -/
def deliverWrongUptoRow : OpenClaim := { program := "ytghoaglolhdoeaadoor", sum := "9d450ac1b57b26ebe2a318be511485242e5dde2446a3ab50c65632b55e4c7e52", func := "letterbag/letterbaglaw13.DeliverWrong", spec := "deliverWrong", unfollowed := true, recurses := true, named := ["letterbag/civil.ahead"], apart := false, laid := [("letterbag/civil.ahead", laid_letterbag_civil_ahead)], narrowed := true }
def DeliverWrongUptoSaid : Prop := deliverWrongUptoRow.holds Tryd.pinned (OpenSpec.upto deliverWrongSpec)

end Rows
end Go.Proofs.YtghoaglolhdoeaaDoor
