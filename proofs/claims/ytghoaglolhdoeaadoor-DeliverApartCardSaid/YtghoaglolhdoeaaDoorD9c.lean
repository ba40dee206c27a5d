/- DeliverApart: for every input the law returns true and leaves its input as it was; the condition: civil.ahead reads as its text lays it (tied). -/
import Derived.Test.YtghoaglolhdoeaaDoorD9
namespace Go.Proofs.YtghoaglolhdoeaaDoor
open Go Go.Ab.D Go.ChangeShapes Go.WideShapes Go.ChangeAt Go.RowKit
theorem deliverApart_holds : Rows.DeliverApartSaid :=
  OpenClaim.holds_of_wide 3 Tryd.f3 rfl rfl rfl rfl rfl rfl rfl ⟨rfl, rfl, rfl, rfl, rfl⟩ rfl rfl rfl rfl rfl (by kernel_rfl) Tryd.func3 (by kernel_rfl)
    (of_decide_eq_true (by kernel_rfl)) (by unfold Func.isWrapper; first | (rw [if_pos (by decide +kernel)]; kernel_rfl) | (rw [if_neg (by decide +kernel)]; exact ⟨rfl, rfl⟩))
    (fun os started H enc _ => apart_lifted os started H enc)
theorem deliverApart_card : Rows.DeliverApartCardSaid :=
  Claim7.holds_tied_plain_at .later [] [.data] true (true, "d56e99eb1f6c6d2747b7a1806daead8f9a0d6d873388fe656a770d3e6633393d") false deliverApart_holds (fun _ h => by cases h) (by kernel_rfl) (fun _ h => by cases h) deliverApart_row_tie rfl ⟨rfl, rfl⟩ (by kernel_rfl) rfl
    (fun f fn hf hfn => by
      obtain rfl : f = 3 := Option.some.inj ((show Tryd.prog.funcNamed "letterbag/letterbaglaw13.DeliverApart" = some 3 by kernel_rfl).symm.trans hf) |>.symm
      obtain rfl : fn = Tryd.f3 := (Option.some.inj (Tryd.func3.symm.trans hfn)).symm
      exact ⟨by kernel_rfl, fun j t ht => by
        rw [Tryd.params3] at ht
        have hm : t ∈ [22, 23, 24] := by simpa using Array.mem_of_getElem? ht
        have hall : ([22, 23, 24].all fun u => !Tryd.prog.wantsStandIn u) = true := by kernel_rfl
        exact (show Tryd.prog.wantsStandIn t = false by simpa using List.all_eq_true.1 hall t hm)⟩)
    (by kernel_rfl)
#print axioms deliverApart_card
end Go.Proofs.YtghoaglolhdoeaaDoor
