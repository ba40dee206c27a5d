/- What functions of this program compute, and the laws of what they compute, under the bounds on lengths that each contract states. -/
import Derived.Test.YtghoaglolhdoeaaDoorD8
import Derived.Test.YtghoaglolhdoeaaDoorAb24
import Derived.Test.YtghoaglolhdoeaaDoorTie
import Derived.Test.YtghoaglolhdoeaaDoorCards
import Derived.ProofKit
import Derived.Handy
import Derived.Lay
import Derived.SevenTiedAt
set_option linter.unusedSimpArgs false
set_option linter.unusedVariables false
namespace Go.Ab.D
open Go Go.Ab Go.Proofs Go.ChangeShapes Go.WideShapes Go.ChangeAt Go.RowKit

theorem own : ownKnob Tryd.prog.godebug = none := by kernel_rfl
theorem laidOut : laidOutB Tryd.prog = true := by kernel_rfl
theorem cell5 : Tryd.prog.cellsOf 5 = 1 := by kernel_rfl
theorem cell3 : Tryd.prog.cellsOf 3 = 1 := by kernel_rfl
theorem cell44 : Tryd.prog.cellsOf 44 = 4 := by kernel_rfl
theorem cell110 : Tryd.prog.cellsOf 110 = 13 := by kernel_rfl
theorem aheadG : Tryd.prog.globalNamed "letterbag/civil.ahead" = some 0 := by kernel_rfl
theorem aheadT : (Tryd.prog.globals[0]?).map (·.type) = some 110 := by kernel_rfl

def LAID : List (String × DataW Unit) := [("letterbag/civil.ahead", YtghoaglolhdoeaaDoor.Rows.laid_letterbag_civil_ahead)]
theorem glOk {W : World} (h : laidMet Tryd.prog LAID W) : ∀ g cs, (g, cs) ∈ GL → TabAt W g cs := by
  intro g cs hg
  simp only [GL, List.mem_singleton, Prod.mk.injEq] at hg
  obtain ⟨rfl, rfl⟩ := hg
  have hT := Lib.tabIs_of_head (k := .i64) (zs := [0, 31, 59, 90, 120, 151, 181, 212, 243, 273, 304, 334, 365]) aheadG aheadT Tryd.underlying110 Tryd.underlying3 cell3 cell110 h
  refine ⟨by decide, fun k hk => ?_⟩
  have := hT.cell aheadG k (by simpa [ahead] using hk)
  rw [this]
  have hk' : k < 13 := by simpa [ahead] using hk
  match k, hk' with
  | 0, _ | 1, _ | 2, _ | 3, _ | 4, _ | 5, _ | 6, _ | 7, _ | 8, _ | 9, _ | 10, _ | 11, _ | 12, _ => rfl

section
variable {H : Type} {enc : TypeId × Value → H} {W : World} {spare : Nat → Bool} {held : Bool}
theorem dec_u8 : ∀ n cs x, cs.length = 1 → DataW.trod enc Tryd.prog W 0 spare held n 5 cs = some x → ∃ a : Int, u8r a ∧ (u8AV a).cells.length = 1 ∧ ∀ k y, (u8AV a).cells[k]? = some y → Vl (C0 W) y (cs.getD k undef) := by
  intro n cs x _ h
  obtain ⟨m, rfl, h0, h1⟩ := dec_int Tryd.underlying5 h
  refine ⟨m, ⟨h0, h1⟩, rfl, fun k y hy => ?_⟩
  cases k with
  | zero => cases hy; exact .raw _
  | succ k => simp [u8AV, AV.cells] at hy
set_option maxRecDepth 100000 in
theorem dec_note : ∀ n cs x, cs.length = 4 → DataW.trod enc Tryd.prog W 0 spare held n 44 cs = some x → ∃ a : NoteR, a.ok ∧ (noteAV a).cells.length = 4 ∧ ∀ k y, (noteAV a).cells[k]? = some y → Vl (C0 W) y (cs.getD k undef) := by
  intro n cs x hl h
  obtain ⟨xs, n', _, _, _, hxl, hf⟩ := DataW.trod_struct Tryd.underlying44 h
  match cs, hl with
  | [c0, c1, c2, c3], _ =>
    have one : ∀ i (hi : i < xs.length) (f : Field) (c : Value), DataW.trod enc Tryd.prog W 0 spare held n' 5 [c] = xs[i]? → ∃ m, c = .int .u8 m ∧ u8r m := fun i hi f c h => by
      rw [List.getElem?_eq_getElem hi] at h
      obtain ⟨m, h1, h2, h3⟩ := dec_int Tryd.underlying5 h
      simp at h1
      exact ⟨m, h1, h2, h3⟩
    have h4 : xs.length = 4 := hxl
    have e0 : DataW.trod enc Tryd.prog W 0 spare held n' 5 (([c0, c1, c2, c3].drop 0).take (Tryd.prog.cellsOf 5)) = xs[0]? := hf 0 _ rfl
    rw [cell5] at e0
    have e1 : DataW.trod enc Tryd.prog W 0 spare held n' 5 (([c0, c1, c2, c3].drop 1).take (Tryd.prog.cellsOf 5)) = xs[1]? := hf 1 _ rfl
    rw [cell5] at e1
    have e2 : DataW.trod enc Tryd.prog W 0 spare held n' 5 (([c0, c1, c2, c3].drop 2).take (Tryd.prog.cellsOf 5)) = xs[2]? := hf 2 _ rfl
    rw [cell5] at e2
    have e3 : DataW.trod enc Tryd.prog W 0 spare held n' 5 (([c0, c1, c2, c3].drop 3).take (Tryd.prog.cellsOf 5)) = xs[3]? := hf 3 _ rfl
    rw [cell5] at e3
    obtain ⟨m0, rfl, r0⟩ := one 0 (by omega) default c0 e0
    obtain ⟨m1, rfl, r1⟩ := one 1 (by omega) default c1 e1
    obtain ⟨m2, rfl, r2⟩ := one 2 (by omega) default c2 e2
    obtain ⟨m3, rfl, r3⟩ := one 3 (by omega) default c3 e3
    refine ⟨⟨m0, m1, m2, m3⟩, ⟨r0, r1, r2, r3⟩, rfl, fun k y hy => ?_⟩
    match k with
    | 0 => cases hy; exact .raw _
    | 1 => cases hy; exact .raw _
    | 2 => cases hy; exact .raw _
    | 3 => cases hy; exact .raw _
    | k + 4 => simp [noteAV, AV.cells] at hy
end

set_option maxRecDepth 100000 in
theorem apart_lifted (os : Os) (started : os.Started) (H : Type) (enc : TypeId × Value → H) :
    ReturnsInHanded {} Tryd.checked os 3 .any (fun w args => (YtghoaglolhdoeaaDoor.Rows.deliverApartSpec.pre enc Tryd.prog Tryd.f3 [] false w args ∧ laidMetH Tryd.prog LAID w) ∧ sizedMet enc Tryd.prog Tryd.f3 (OpenSpec.ofChange YtghoaglolhdoeaaDoor.Rows.deliverApartSpec) false w args)
      (YtghoaglolhdoeaaDoor.Rows.deliverApartSpec.post enc Tryd.prog Tryd.f3 false true false false) := by
  refine returnsInHanded_of_change_and (C := Tryd.checked) (X := fun w _ => laidMetH Tryd.prog LAID w) (fun _ _ _ hh h => h.of_heap hh) own started (by kernel_rfl) Tryd.func3
    (ChangeSpec.witness_shaped (enc := enc) (C := Tryd.checked) (os := os) (X := fun w _ => laidMetH Tryd.prog LAID w) false (World.laidAll Tryd.prog os LAID) #[.slice none 0 0, .slice none 0 0, .int .u16 0] 8 (World.laidAll_os _ _ _)
      (World.shaped_of_ZipB (by kernel_rfl) (by kernel_rfl)) (by kernel_rfl) (by kernel_rfl) (by kernel_rfl)
      (by rw [MakeChecks.laidMetH_plain _ _ _ (by kernel_rfl)]; exact laidMet_laidAll _ (by kernel_rfl) (by kernel_rfl))) ?_
  intro W base args ds gs before hval0 hW _ _ hL _
  have hL' : laidMet Tryd.prog LAID W := by rw [← MakeChecks.laidMetH_plain _ _ _ (by kernel_rfl)]; exact hL
  have hval : ∀ (j : Nat) t v, Tryd.f3.params[j]? = some t → args[j]? = some v → Value.okWide Tryd.prog W .any base t v := hval0
  have hW' := hW
  obtain ⟨p, q, hA0, hV, rfl, _, _⟩ := hW
  have hA : DataW.TrodAll enc Tryd.prog W 0 (fun _ => true) true Tryd.f3.params.toList args.toList ds p := hA0
  rw [Tryd.params3] at hA hval
  obtain ⟨v0, v1, v2, d0, d1, d2, p0, p1, p2, rfl, rfl, rfl, h0, h1, h2⟩ := trodAll_three hA
  obtain ⟨rfl, rfl⟩ := trodVars_none hV
  have hlt : ∀ x ∈ p0 ++ p1 ++ p2 ++ [], x.block < W.heap.size := fun x hx => hW'.lt x hx
  obtain ⟨l, hl1, hl2, hl3⟩ := vl_slice noteAV NoteR.ok (by decide) Tryd.underlying22 cell44 (hval 0 22 v0 rfl rfl) h0 dec_note
  obtain ⟨fl, hf1, hf2, hf3⟩ := vl_slice u8AV u8r (by decide) Tryd.underlying23 cell5 (hval 1 23 v1 rfl rfl) h1 dec_u8
  obtain ⟨day, rfl, rfl, rfl, wd⟩ := open_int Tryd.underlying24 (hval 2 24 v2 rfl rfl) h2
  have hd := int_rng wd
  simp only [klo, khi] at hd
  have hm : maxLen = 9223372036854775807 := by decide
  have hc := pure_calls (apart_ok false l (by omega) hl1 false fl (by omega) hf1 day hd) (glOk hL') (args_cons hl3 (args_cons hf3 (args_cons (.raw _) args_nil)))
  refine hc.mono fun e W' ⟨he, hb⟩ => ?_
  subst he
  have h0' := Below.trod laidOut (by kernel_rfl) (of_decide_eq_true (by kernel_rfl)) h0 hb (fun x hx => hlt x (List.mem_append_left _ (List.mem_append_left _ (List.mem_append_left _ hx))))
  have h1' := Below.trod laidOut (by kernel_rfl) (of_decide_eq_true (by kernel_rfl)) h1 hb (fun x hx => hlt x (List.mem_append_left _ (List.mem_append_left _ (List.mem_append_right _ hx))))
  have h2' := Below.trod laidOut (by kernel_rfl) (of_decide_eq_true (by kernel_rfl)) h2 hb (fun x hx => hlt x (List.mem_append_left _ (List.mem_append_right _ hx)))
  exact ⟨_, rfl, _, _, _, [], _, [], hW', trodAll_mk1 (shut_bool Tryd.underlying4 _), trodAll_mk3 h0' h1' h2', rfl, hb.frame _, fun h => by cases h⟩
end Go.Ab.D
