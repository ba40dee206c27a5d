/- What functions of this program compute, and the laws of what they compute, under the bounds on lengths that each contract states. -/
import Derived.Test.YtegbbhaghlcckaaS22
import Derived.Test.YtegbbhaghlcckaaAb40
import Derived.Test.YtegbbhaghlcckaaGC
import Derived.ProofKit
import Derived.Handy
import Derived.Test.YtegbbhaghlcckaaRows
set_option linter.unusedSimpArgs false
set_option linter.unusedVariables false
namespace Go.Ab.S
open Go Go.Ab Go.Proofs Go.ChangeShapes Go.WideShapes Go.ChangeAt Go.RowKit
theorem own : ownKnob Try.prog.godebug = none := by kernel_rfl
theorem laidOut : laidOutB Try.prog = true := by kernel_rfl
theorem cell5 : Try.prog.cellsOf 5 = 1 := by kernel_rfl
theorem glOk {W : World} : ∀ g cs, (g, cs) ∈ GL → TabAt W g cs := fun g cs h => by simp [GL] at h
section
variable {H : Type} {enc : TypeId × Value → H} {W : World} {spare : Nat → Bool} {held : Bool}
theorem dec_u8 : ∀ n cs x, cs.length = 1 → DataW.trod enc Try.prog W 0 spare held n 5 cs = some x → ∃ a : Int, u8r a ∧ (u8AV a).cells.length = 1 ∧ ∀ k y, (u8AV a).cells[k]? = some y → Vl (C0 W) y (cs.getD k undef) := by
  intro n cs x _ h
  obtain ⟨m, rfl, h0, h1⟩ := dec_int Try.underlying5 h
  refine ⟨m, ⟨h0, h1⟩, rfl, fun k y hy => ?_⟩
  cases k with
  | zero => cases hy; exact .raw _
  | succ k => simp [u8AV, AV.cells] at hy
end
theorem cl82 : Try.prog.cellsOf 82 = 5 := by kernel_rfl
theorem cl22 : Try.prog.cellsOf 22 = 1 := by kernel_rfl
set_option maxRecDepth 100000 in
theorem dec_case {H : Type} {enc : TypeId × Value → H} {W : World} {spare : Nat → Bool} {held : Bool} {r : Reach} {b0 : Nat} {v : Value} {d : DataW H} {ps : List MemPlace} (hval : Value.okWide Try.prog W r b0 82 v) (h : DataW.Trod enc Try.prog W 0 spare held 82 v d ps) :
    ∃ x : CaseR, x.ok ∧ Vl (C0 W) (caseAV b4F x) v := by
  obtain ⟨cs, rfl, hcs⟩ := okWide_struct Try.underlying82 hval
  rw [cl82] at hcs
  obtain ⟨fuel, h⟩ := h
  obtain ⟨xs, n', _, hx, _, hxl, hf⟩ := DataW.trod_struct Try.underlying82 h
  obtain ⟨cs⟩ := cs
  have hl : cs.length = 5 := by simpa using hcs
  match cs, hl with
  | [c0, c1, c2, c3, c4], _ =>
    have hxl2 : xs.length = 5 := hxl
    match xs, hxl2 with
    | [x0, x1, x2, x3, x4], _ =>
      have e0 : DataW.trod enc Try.prog W 0 spare held n' 22 (([c0, c1, c2, c3, c4].drop 0).take (Try.prog.cellsOf 22)) = some x0 := hf 0 _ rfl
      have e1 : DataW.trod enc Try.prog W 0 spare held n' 22 (([c0, c1, c2, c3, c4].drop 1).take (Try.prog.cellsOf 22)) = some x1 := hf 1 _ rfl
      have e2 : DataW.trod enc Try.prog W 0 spare held n' 22 (([c0, c1, c2, c3, c4].drop 2).take (Try.prog.cellsOf 22)) = some x2 := hf 2 _ rfl
      have e3 : DataW.trod enc Try.prog W 0 spare held n' 22 (([c0, c1, c2, c3, c4].drop 3).take (Try.prog.cellsOf 22)) = some x3 := hf 3 _ rfl
      have e4 : DataW.trod enc Try.prog W 0 spare held n' 5 (([c0, c1, c2, c3, c4].drop 4).take (Try.prog.cellsOf 5)) = some x4 := hf 4 _ rfl
      rw [cl22] at e0 e1 e2 e3; rw [cell5] at e4
      obtain ⟨d0, p0⟩ := x0; obtain ⟨d1, p1⟩ := x1; obtain ⟨d2, p2⟩ := x2; obtain ⟨d3, p3⟩ := x3
      obtain ⟨A, a0, b0, v0⟩ := vl_sliceN u8AV u8r (by decide) Try.underlying22 cell5 e0 dec_u8
      obtain ⟨B, a1, b1, v1⟩ := vl_sliceN u8AV u8r (by decide) Try.underlying22 cell5 e1 dec_u8
      obtain ⟨C, a2, b2, v2⟩ := vl_sliceN u8AV u8r (by decide) Try.underlying22 cell5 e2 dec_u8
      obtain ⟨D, a3, b3, v3⟩ := vl_sliceN u8AV u8r (by decide) Try.underlying22 cell5 e3 dec_u8
      obtain ⟨m4, q4, l4, g4⟩ := dec_int Try.underlying5 e4
      obtain rfl : c4 = .int .u8 m4 := by simpa using q4
      have hm : maxLen = 9223372036854775807 := by decide
      refine ⟨⟨A, B, C, D, m4⟩, ⟨a0, a1, a2, a3, ⟨by simpa [klo] using l4, by simpa [khi] using g4⟩, by simpa [hm] using b0, by simpa [hm] using b1, by simpa [hm] using b2, by simpa [hm] using b3⟩, .agg rfl fun k y hy => ?_⟩
      match k with
      | 0 => cases hy; exact v0
      | 1 => cases hy; exact v1
      | 2 => cases hy; exact v2
      | 3 => cases hy; exact v3
      | 4 => cases hy; exact .raw _
      | k + 5 => simp at hy
set_option maxRecDepth 100000 in
theorem sorterRoom_lifted (os : Os) (started : os.Started) (H : Type) (enc : TypeId × Value → H) :
    ReturnsInHanded {} Try.checked os 10 .any (Ytegbbhaghlcckaa.Rows.sorterRoomSpec.pre6 enc Try.prog Try.f10 [] false) (Ytegbbhaghlcckaa.Rows.sorterRoomSpec.post enc Try.prog Try.f10 false true false false) := by
  refine returnsInHanded_of_change (C := Try.checked) own started (by kernel_rfl) Try.func10
    (ChangeSpec.witness6 (enc := enc) (C := Try.checked) false ⟨#[], #[.agg #[.slice none 0 0, .slice none 0 0, .slice none 0 0, .slice none 0 0, .int .u8 0]], []⟩ 8 (by kernel_rfl) (by kernel_rfl) (by kernel_rfl) (by kernel_rfl)) ?_
  intro W base args ds gs before hval0 hW _ _
  have hval : ∀ (j : Nat) t v, Try.f10.params[j]? = some t → args[j]? = some v → Value.okWide Try.prog W .any base t v := hval0
  have hW' := hW
  obtain ⟨p, q, hA0, hV, rfl, _, _⟩ := hW
  have hA : DataW.TrodAll enc Try.prog W 0 (fun _ => true) true Try.f10.params.toList args.toList ds p := hA0
  rw [Try.params10] at hA hval
  obtain ⟨v0, d0, rfl, rfl, h0⟩ := trodAll_one hA
  obtain ⟨rfl, rfl⟩ := trodVars_none hV
  have hlt : ∀ x ∈ p ++ [], x.block < W.heap.size := fun x hx => hW'.lt x hx
  obtain ⟨x, hx, hx3⟩ := dec_case (hval 0 82 v0 rfl rfl) h0
  have hm : maxLen = 9223372036854775807 := by decide
  have hc := pure_calls (room_ok b4F x hx) (glOk (W := W)) (args_cons hx3 args_nil)
  refine hc.mono fun e W' ⟨he, hb⟩ => ?_
  subst he
  have h0' := Below.trod laidOut (by kernel_rfl) (of_decide_eq_true (by kernel_rfl)) h0 hb (fun x hx => hlt x (List.mem_append_left _ hx))
  exact ⟨_, rfl, _, _, _, [], _, [], hW', trodAll_mk1 (shut_bool Try.underlying4 _), trodAll_mk1 h0', rfl, hb.frame _, fun h => by cases h⟩
end Go.Ab.S
