/- The given statement, as its constant has it, without a condition ahead of it. -/
import Derived.Test.YtghoaglolhdoeaaDoorD33
set_option linter.unusedSimpArgs false
set_option linter.unusedVariables false
namespace Go.Proofs.YtghoaglolhdoeaaDoor
open Go Go.Ab.D Go.ChangeShapes Go.WideShapes Go.ChangeAt Go.RowKit
theorem deliverValid_holds : Rows.DeliverValidSaid :=
  OpenClaim.holds_of_wide 7 Tryd.f7 rfl rfl rfl rfl rfl rfl rfl ⟨rfl, rfl, rfl, rfl, rfl⟩ rfl rfl rfl rfl rfl (by kernel_rfl) Tryd.func7 (by kernel_rfl)
    (of_decide_eq_true (by kernel_rfl)) (by unfold Func.isWrapper; first | (rw [if_pos (by decide +kernel)]; kernel_rfl) | (rw [if_neg (by decide +kernel)]; exact ⟨rfl, rfl⟩))
    (fun os started H enc _ => deliverValid_lifted os started H enc)
theorem deliverValid_card : Rows.DeliverValidCardSaid :=
  Claim7.holds_tied_plain_at .later [] [.data] true (true, "d56e99eb1f6c6d2747b7a1806daead8f9a0d6d873388fe656a770d3e6633393d") false deliverValid_holds (fun _ h => by cases h) (by kernel_rfl) (fun _ h => by cases h) deliverValid_row_tie rfl ⟨rfl, rfl⟩ (by kernel_rfl) rfl
    (fun f fn hf hfn => by
      obtain rfl : f = 7 := Option.some.inj ((show Tryd.prog.funcNamed "letterbag/letterbaglaw13.DeliverValid" = some 7 by kernel_rfl).symm.trans hf) |>.symm
      obtain rfl : fn = Tryd.f7 := (Option.some.inj (Tryd.func7.symm.trans hfn)).symm
      exact ⟨by kernel_rfl, fun j t ht => by
        rw [Tryd.params7] at ht
        have hm : t ∈ [30, 32] := by simpa using Array.mem_of_getElem? ht
        have hall : ([30, 32].all fun u => !Tryd.prog.wantsStandIn u) = true := by kernel_rfl
        exact (show Tryd.prog.wantsStandIn t = false by simpa using List.all_eq_true.1 hall t hm)⟩)
    (by kernel_rfl)
#print axioms deliverValid_card
end Go.Proofs.YtghoaglolhdoeaaDoor
