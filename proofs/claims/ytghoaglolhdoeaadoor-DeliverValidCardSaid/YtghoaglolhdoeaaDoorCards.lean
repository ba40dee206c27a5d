/-
  DERIVED. GIVEN WITH THE SEED: THE CARDS: each row of YtghoaglolhdoeaaDoorRows.lean that lists a variable, with what it lists TIED to the program's text (the seventh form; the later family's looks); each row that meets fmt, with fmt's text TOLD by the authors' own Lean function (tested against real Go, not proved from fmt's source: count such statements apart). THE CARD IS WHAT COUNTS. Prove the row's statement (the work); the ties are given (YtghoaglolhdoeaaDoorTie.lean); close each card by the builder's one call (the guide's Derived/Test/ToyasCard.lean, 'card_holds'). Laid BY PROGRAM, IN A SANDBOX (cutbox-door.mjs). By AI agents, Wed Nov 11 2026. No macro, syntax, notation, axiom, sorry.
-/
import Derived.Test.YtghoaglolhdoeaaDoorRows
import GoSem.ClaimSeven
namespace Go.Proofs.YtghoaglolhdoeaaDoor
namespace Rows

/-- THE TIED CARD OF 'letterbaglaw13.DeliverApart'. -/
def deliverApartCard : Claim7 := { stood := { row := deliverApartRow, standIns := [], harness := (true, "d56e99eb1f6c6d2747b7a1806daead8f9a0d6d873388fe656a770d3e6633393d"), looks := false }, kinds := [], alts := [], laidByText := true, laidKinds := [.data], laidTests := true, laidLooks := .later }
def DeliverApartCardSaid : Prop := Claim7.holds Tryd.pinned (.plain (OpenSpec.ofChange deliverApartSpec)) deliverApartCard

/-- THE TIED CARD OF 'letterbaglaw13.DeliverMore'. -/
def deliverMoreCard : Claim7 := { stood := { row := deliverMoreRow, standIns := [], harness := (true, "d56e99eb1f6c6d2747b7a1806daead8f9a0d6d873388fe656a770d3e6633393d"), looks := false }, kinds := [], alts := [], laidByText := true, laidKinds := [.data], laidTests := true, laidLooks := .later }
def DeliverMoreCardSaid : Prop := Claim7.holds Tryd.pinned (.plain (OpenSpec.ofChange deliverMoreSpec)) deliverMoreCard

/-- THE TIED CARD OF 'letterbaglaw13.DeliverNext'. -/
def deliverNextCard : Claim7 := { stood := { row := deliverNextRow, standIns := [], harness := (true, "d56e99eb1f6c6d2747b7a1806daead8f9a0d6d873388fe656a770d3e6633393d"), looks := false }, kinds := [], alts := [], laidByText := true, laidKinds := [.data], laidTests := true, laidLooks := .later }
def DeliverNextCardSaid : Prop := Claim7.holds Tryd.pinned (.plain (OpenSpec.ofChange deliverNextSpec)) deliverNextCard

/-- THE TIED CARD OF 'letterbaglaw13.DeliverYears'. -/
def deliverYearsCard : Claim7 := { stood := { row := deliverYearsRow, standIns := [], harness := (true, "d56e99eb1f6c6d2747b7a1806daead8f9a0d6d873388fe656a770d3e6633393d"), looks := false }, kinds := [], alts := [], laidByText := true, laidKinds := [.data], laidTests := true, laidLooks := .later }
def DeliverYearsCardSaid : Prop := Claim7.holds Tryd.pinned (.plain (OpenSpec.ofChange deliverYearsSpec)) deliverYearsCard

/-- THE TIED CARD OF 'letterbaglaw13.DeliverValid'. -/
def deliverValidCard : Claim7 := { stood := { row := deliverValidRow, standIns := [], harness := (true, "d56e99eb1f6c6d2747b7a1806daead8f9a0d6d873388fe656a770d3e6633393d"), looks := false }, kinds := [], alts := [], laidByText := true, laidKinds := [.data], laidTests := true, laidLooks := .later }
def DeliverValidCardSaid : Prop := Claim7.holds Tryd.pinned (.plain (OpenSpec.ofChange deliverValidSpec)) deliverValidCard

/-- THE TIED CARD OF 'letterbaglaw13.DeliverSmall'. -/
def deliverSmallCard : Claim7 := { stood := { row := deliverSmallRow, standIns := [], harness := (true, "d56e99eb1f6c6d2747b7a1806daead8f9a0d6d873388fe656a770d3e6633393d"), looks := false }, kinds := [], alts := [], laidByText := true, laidKinds := [.data], laidTests := true, laidLooks := .later }
def DeliverSmallCardSaid : Prop := Claim7.holds Tryd.pinned (.plain (OpenSpec.ofChange deliverSmallSpec)) deliverSmallCard

/-- THE TIED CARD OF 'letterbaglaw13.DeliverRules'. -/
def deliverRulesCard : Claim7 := { stood := { row := deliverRulesRow, standIns := [], harness := (true, "d56e99eb1f6c6d2747b7a1806daead8f9a0d6d873388fe656a770d3e6633393d"), looks := false }, kinds := [], alts := [], laidByText := true, laidKinds := [.data], laidTests := true, laidLooks := .later }
def DeliverRulesCardSaid : Prop := Claim7.holds Tryd.pinned (.plain (OpenSpec.ofChange deliverRulesSpec)) deliverRulesCard

/-- THE TIED CARD OF 'letterbaglaw13.DeliverWrong'. -/
def deliverWrongCard : Claim7 := { stood := { row := deliverWrongRow, standIns := [], harness := (true, "d56e99eb1f6c6d2747b7a1806daead8f9a0d6d873388fe656a770d3e6633393d"), looks := false }, kinds := [], alts := [], laidByText := true, laidKinds := [.data], laidTests := true, laidLooks := .later }
def DeliverWrongCardSaid : Prop := Claim7.holds Tryd.pinned (.plain (OpenSpec.ofChange deliverWrongSpec)) deliverWrongCard

/-- THE SECOND FORM's CARD OF 'letterbaglaw13.DeliverApart'. -/
def deliverApartUptoCard : Claim7 := { stood := { row := deliverApartUptoRow, standIns := [], harness := (true, "d56e99eb1f6c6d2747b7a1806daead8f9a0d6d873388fe656a770d3e6633393d"), looks := false }, kinds := [], alts := [], laidByText := true, laidKinds := [.data], laidTests := true, laidLooks := .later }
def DeliverApartUptoCardSaid : Prop := Claim7.holds Tryd.pinned (.plain (OpenSpec.upto deliverApartSpec)) deliverApartUptoCard

/-- THE SECOND FORM's CARD OF 'letterbaglaw13.DeliverMore'. -/
def deliverMoreUptoCard : Claim7 := { stood := { row := deliverMoreUptoRow, standIns := [], harness := (true, "d56e99eb1f6c6d2747b7a1806daead8f9a0d6d873388fe656a770d3e6633393d"), looks := false }, kinds := [], alts := [], laidByText := true, laidKinds := [.data], laidTests := true, laidLooks := .later }
def DeliverMoreUptoCardSaid : Prop := Claim7.holds Tryd.pinned (.plain (OpenSpec.upto deliverMoreSpec)) deliverMoreUptoCard

/-- THE SECOND FORM's CARD OF 'letterbaglaw13.DeliverNext'. -/
def deliverNextUptoCard : Claim7 := { stood := { row := deliverNextUptoRow, standIns := [], harness := (true, "d56e99eb1f6c6d2747b7a1806daead8f9a0d6d873388fe656a770d3e6633393d"), looks := false }, kinds := [], alts := [], laidByText := true, laidKinds := [.data], laidTests := true, laidLooks := .later }
def DeliverNextUptoCardSaid : Prop := Claim7.holds Tryd.pinned (.plain (OpenSpec.upto deliverNextSpec)) deliverNextUptoCard

/-- THE SECOND FORM's CARD OF 'letterbaglaw13.DeliverYears'. -/
def deliverYearsUptoCard : Claim7 := { stood := { row := deliverYearsUptoRow, standIns := [], harness := (true, "d56e99eb1f6c6d2747b7a1806daead8f9a0d6d873388fe656a770d3e6633393d"), looks := false }, kinds := [], alts := [], laidByText := true, laidKinds := [.data], laidTests := true, laidLooks := .later }
def DeliverYearsUptoCardSaid : Prop := Claim7.holds Tryd.pinned (.plain (OpenSpec.upto deliverYearsSpec)) deliverYearsUptoCard

/-- THE SECOND FORM's CARD OF 'letterbaglaw13.DeliverValid'. -/
def deliverValidUptoCard : Claim7 := { stood := { row := deliverValidUptoRow, standIns := [], harness := (true, "d56e99eb1f6c6d2747b7a1806daead8f9a0d6d873388fe656a770d3e6633393d"), looks := false }, kinds := [], alts := [], laidByText := true, laidKinds := [.data], laidTests := true, laidLooks := .later }
def DeliverValidUptoCardSaid : Prop := Claim7.holds Tryd.pinned (.plain (OpenSpec.upto deliverValidSpec)) deliverValidUptoCard

/-- THE SECOND FORM's CARD OF 'letterbaglaw13.DeliverSmall'. -/
def deliverSmallUptoCard : Claim7 := { stood := { row := deliverSmallUptoRow, standIns := [], harness := (true, "d56e99eb1f6c6d2747b7a1806daead8f9a0d6d873388fe656a770d3e6633393d"), looks := false }, kinds := [], alts := [], laidByText := true, laidKinds := [.data], laidTests := true, laidLooks := .later }
def DeliverSmallUptoCardSaid : Prop := Claim7.holds Tryd.pinned (.plain (OpenSpec.upto deliverSmallSpec)) deliverSmallUptoCard

/-- THE SECOND FORM's CARD OF 'letterbaglaw13.DeliverRules'. -/
def deliverRulesUptoCard : Claim7 := { stood := { row := deliverRulesUptoRow, standIns := [], harness := (true, "d56e99eb1f6c6d2747b7a1806daead8f9a0d6d873388fe656a770d3e6633393d"), looks := false }, kinds := [], alts := [], laidByText := true, laidKinds := [.data], laidTests := true, laidLooks := .later }
def DeliverRulesUptoCardSaid : Prop := Claim7.holds Tryd.pinned (.plain (OpenSpec.upto deliverRulesSpec)) deliverRulesUptoCard

/-- THE SECOND FORM's CARD OF 'letterbaglaw13.DeliverWrong'. -/
def deliverWrongUptoCard : Claim7 := { stood := { row := deliverWrongUptoRow, standIns := [], harness := (true, "d56e99eb1f6c6d2747b7a1806daead8f9a0d6d873388fe656a770d3e6633393d"), looks := false }, kinds := [], alts := [], laidByText := true, laidKinds := [.data], laidTests := true, laidLooks := .later }
def DeliverWrongUptoCardSaid : Prop := Claim7.holds Tryd.pinned (.plain (OpenSpec.upto deliverWrongSpec)) deliverWrongUptoCard
end Rows
end Go.Proofs.YtghoaglolhdoeaaDoor
