/- What functions of this program compute, and the laws of what they compute, under the bounds on lengths that each contract states. -/
import Derived.Test.YtegbbhaghlcckaaS14
import Derived.Test.YtegbbhaghlcckaaGC
import Derived.ProofKit
import Derived.Handy
import Derived.Test.YtegbbhaghlcckaaRows
set_option linter.unusedSimpArgs false
set_option linter.unusedVariables false
namespace Go.Ab.S
open Go Go.Ab Go.Proofs Go.ChangeShapes Go.WideShapes Go.ChangeAt Go.RowKit
theorem own : ownKnob Try.prog.godebug = none := by kernel_rfl
theorem laidOut : laidOutB Try.prog = true := by kernel_rfl
theorem cell5 : Try.prog.cellsOf 5 = 1 := by kernel_rfl
theorem glOk {W : World} : ∀ g cs, (g, cs) ∈ GL → TabAt W g cs := fun g cs h => by simp [GL] at h
section
variable {H : Type} {enc : TypeId × Value → H} {W : World} {spare : Nat → Bool} {held : Bool}
theorem dec_u8 : ∀ n cs x, cs.length = 1 → DataW.trod enc Try.prog W 0 spare held n 5 cs = some x → ∃ a : Int, u8r a ∧ (u8AV a).cells.length = 1 ∧ ∀ k y, (u8AV a).cells[k]? = some y → Vl (C0 W) y (cs.getD k undef) := by
  intro n cs x _ h
  obtain ⟨m, rfl, h0, h1⟩ := dec_int Try.underlying5 h
  refine ⟨m, ⟨h0, h1⟩, rfl, fun k y hy => ?_⟩
  cases k with
  | zero => cases hy; exact .raw _
  | succ k => simp [u8AV, AV.cells] at hy
end
set_option maxRecDepth 100000 in
theorem sorterNeeds_lifted (os : Os) (started : os.Started) (H : Type) (enc : TypeId × Value → H) :
    ReturnsInHanded {} Try.checked os 6 .any (Ytegbbhaghlcckaa.Rows.sorterNeedsSpec.pre6 enc Try.prog Try.f6 [] false) (Ytegbbhaghlcckaa.Rows.sorterNeedsSpec.post enc Try.prog Try.f6 false true false false) := by
  refine returnsInHanded_of_change (C := Try.checked) own started (by kernel_rfl) Try.func6
    (ChangeSpec.witness6 (enc := enc) (C := Try.checked) false ⟨#[], #[.slice none 0 0, .slice none 0 0, .int .u8 0], []⟩ 8 (by kernel_rfl) (by kernel_rfl) (by kernel_rfl) (by kernel_rfl)) ?_
  intro W base args ds gs before hval0 hW _ _
  have hval : ∀ (j : Nat) t v, Try.f6.params[j]? = some t → args[j]? = some v → Value.okWide Try.prog W .any base t v := hval0
  have hW' := hW
  obtain ⟨p, q, hA0, hV, rfl, _, _⟩ := hW
  have hA : DataW.TrodAll enc Try.prog W 0 (fun _ => true) true Try.f6.params.toList args.toList ds p := hA0
  rw [Try.params6] at hA hval
  obtain ⟨v0, v1, v2, d0, d1, d2, p0, p1, p2, rfl, rfl, rfl, h0, h1, h2⟩ := trodAll_three hA
  obtain ⟨rfl, rfl⟩ := trodVars_none hV
  have hlt : ∀ x ∈ p0 ++ p1 ++ p2 ++ [], x.block < W.heap.size := fun x hx => hW'.lt x hx
  obtain ⟨caps, hcaps1, hcaps2, hcaps3⟩ := vl_slice u8AV u8r (by decide) Try.underlying22 cell5 (hval 0 22 v0 rfl rfl) h0 dec_u8
  obtain ⟨l, hl1, hl2, hl3⟩ := vl_slice u8AV u8r (by decide) Try.underlying22 cell5 (hval 1 22 v1 rfl rfl) h1 dec_u8
  obtain ⟨x, rfl, rfl, rfl, w2⟩ := open_int Try.underlying5 (hval 2 5 v2 rfl rfl) h2
  have hx := int_rng w2
  simp only [klo, khi] at hx
  have hm : maxLen = 9223372036854775807 := by decide
  have hc := pure_calls (needs_ok false caps (by omega) hcaps1 false l (by omega) hl1 x (by omega)) (glOk (W := W)) (args_cons hcaps3 (args_cons hl3 (args_cons (.raw _) args_nil)))
  refine hc.mono fun e W' ⟨he, hb⟩ => ?_
  subst he
  have h0' := Below.trod laidOut (by kernel_rfl) (of_decide_eq_true (by kernel_rfl)) h0 hb (fun x hx => hlt x (List.mem_append_left _ (List.mem_append_left _ (List.mem_append_left _ (hx)))))
  have h1' := Below.trod laidOut (by kernel_rfl) (of_decide_eq_true (by kernel_rfl)) h1 hb (fun x hx => hlt x (List.mem_append_left _ (List.mem_append_left _ (List.mem_append_right _ hx))))
  have h2' := Below.trod laidOut (by kernel_rfl) (of_decide_eq_true (by kernel_rfl)) h2 hb (fun x hx => hlt x (List.mem_append_left _ (List.mem_append_right _ hx)))
  exact ⟨_, rfl, _, _, _, [], _, [], hW', trodAll_mk1 (shut_bool Try.underlying4 _), trodAll_mk3 h0' h1' h2', rfl, hb.frame _, fun h => by cases h⟩
end Go.Ab.S
