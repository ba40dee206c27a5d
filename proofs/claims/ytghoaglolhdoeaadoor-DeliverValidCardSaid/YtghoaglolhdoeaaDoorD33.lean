/- What functions of this program compute, and the laws of what they compute, under the bounds on lengths that each contract states. -/
import Derived.Test.YtghoaglolhdoeaaDoorD9
import Derived.Test.YtghoaglolhdoeaaDoorD32
import Derived.Test.YtghoaglolhdoeaaDoorAb28
set_option linter.unusedSimpArgs false
set_option linter.unusedVariables false
namespace Go.Ab.D
open Go Go.Ab Go.Proofs Go.ChangeShapes Go.WideShapes Go.ChangeAt Go.RowKit
def BND : Nat := 140737488351232
theorem bndR : reachBytes = BND := by decide
section
variable {H : Type} {enc : TypeId × Value → H} {W : World} {spare : Nat → Bool} {held : Bool}
theorem by9 : Tryd.prog.bytesOf 9 = 16 := by kernel_rfl
theorem cell9 : Tryd.prog.cellsOf 9 = 1 := by kernel_rfl
theorem cell111 : Tryd.prog.cellsOf 111 = 1 := by kernel_rfl
theorem u9' : Tryd.prog.underlying 9 = some .string := by kernel_rfl
theorem u111 : Tryd.prog.underlying 111 = some (.slice 9) := by kernel_rfl
theorem dec_text : ∀ n cs x, cs.length = 1 → DataW.trod enc Tryd.prog W 0 spare held n 9 cs = some x → (x.1.weights Tryd.prog 9).all (· ≤ BND) = true → ∃ a : ByteArray, True ∧ (strAV a).cells.length = 1 ∧ ∀ k y, (strAV a).cells[k]? = some y → Vl (C0 W) y (cs.getD k undef) := by
  intro n cs x _ h _
  obtain ⟨s, rfl, _⟩ := DataW.trod_string u9' h
  refine ⟨s, trivial, rfl, fun k y hy => ?_⟩
  cases k with
  | zero => cases hy; exact .raw _
  | succ k => simp [strAV, AV.cells] at hy
theorem dec_texts {n : Nat} {c : Value} {x : DataW H × List MemPlace} (h : DataW.trod enc Tryd.prog W 0 spare held n 111 [c] = some x) (hw : (x.1.weights Tryd.prog 111).all (· ≤ BND) = true) : ∃ l : List ByteArray, l.length * 16 ≤ BND ∧ Vl (C0 W) (ownTx l) c := by
  obtain ⟨d, ps⟩ := x
  obtain ⟨l, _, h1, h2⟩ := vl_sliceW strAV (fun _ => True) (by decide) u111 cell9 by9 h hw dec_text
  exact ⟨l, h1, h2⟩
theorem cl37 : Tryd.prog.cellsOf 37 = 5 := by kernel_rfl
theorem by37 : Tryd.prog.bytesOf 37 = 40 := by kernel_rfl
set_option maxRecDepth 100000 in
theorem dec_rule : ∀ n cs x, cs.length = 5 → DataW.trod enc Tryd.prog W 0 spare held n 37 cs = some x → (x.1.weights Tryd.prog 37).all (· ≤ BND) = true → ∃ a : RuleR, (a.ok) ∧ (ruleAV a).cells.length = 5 ∧ ∀ k y, (ruleAV a).cells[k]? = some y → Vl (C0 W) y (cs.getD k undef) := by
  intro n cs x hl h hw
  obtain ⟨xs, n', _, hx, _, hxl, hf⟩ := DataW.trod_struct Tryd.underlying37 h
  match cs, hl with
  | [c0, c1, c2, c3, c4], _ =>
    have hxl2 : xs.length = 5 := hxl
    match xs, hxl2 with
    | [x0, x1, x2, x3, x4], _ =>
      have e0 : DataW.trod enc Tryd.prog W 0 spare held n' 3 (([c0, c1, c2, c3, c4].drop 0).take (Tryd.prog.cellsOf 3)) = some x0 := hf 0 _ rfl
      rw [cell3] at e0
      have e1 : DataW.trod enc Tryd.prog W 0 spare held n' 5 (([c0, c1, c2, c3, c4].drop 1).take (Tryd.prog.cellsOf 5)) = some x1 := hf 1 _ rfl
      rw [cell5] at e1
      have e2 : DataW.trod enc Tryd.prog W 0 spare held n' 3 (([c0, c1, c2, c3, c4].drop 2).take (Tryd.prog.cellsOf 3)) = some x2 := hf 2 _ rfl
      rw [cell3] at e2
      have e3 : DataW.trod enc Tryd.prog W 0 spare held n' 3 (([c0, c1, c2, c3, c4].drop 3).take (Tryd.prog.cellsOf 3)) = some x3 := hf 3 _ rfl
      rw [cell3] at e3
      have e4 : DataW.trod enc Tryd.prog W 0 spare held n' 5 (([c0, c1, c2, c3, c4].drop 4).take (Tryd.prog.cellsOf 5)) = some x4 := hf 4 _ rfl
      rw [cell5] at e4
      obtain ⟨m0, q0, l0, g0⟩ := dec_int Tryd.underlying3 e0
      obtain rfl : c0 = .int .i64 m0 := by simpa using q0
      obtain ⟨m1, q1, l1, g1⟩ := dec_int Tryd.underlying5 e1
      obtain rfl : c1 = .int .u8 m1 := by simpa using q1
      obtain ⟨m2, q2, l2, g2⟩ := dec_int Tryd.underlying3 e2
      obtain rfl : c2 = .int .i64 m2 := by simpa using q2
      obtain ⟨m3, q3, l3, g3⟩ := dec_int Tryd.underlying3 e3
      obtain rfl : c3 = .int .i64 m3 := by simpa using q3
      obtain ⟨m4, q4, l4, g4⟩ := dec_int Tryd.underlying5 e4
      obtain rfl : c4 = .int .u8 m4 := by simpa using q4
      refine ⟨⟨m0, m1, m2, m3, m4⟩, ⟨⟨by simpa [klo] using l2, by simpa [khi] using g2⟩, ⟨by simpa [klo] using l3, by simpa [khi] using g3⟩, by simpa [klo] using l4, by simpa [khi] using g4⟩, rfl, fun k y hy => ?_⟩
      match k with
      | 0 => cases hy; exact .raw _
      | 1 => cases hy; exact .raw _
      | 2 => cases hy; exact .raw _
      | 3 => cases hy; exact .raw _
      | 4 => cases hy; exact .raw _
      | k + 5 => simp [ruleAV, AV.cells] at hy
theorem cl39 : Tryd.prog.cellsOf 39 = 8 := by kernel_rfl
theorem by39 : Tryd.prog.bytesOf 39 = 80 := by kernel_rfl
set_option maxRecDepth 100000 in
theorem dec_pt : ∀ n cs x, cs.length = 8 → DataW.trod enc Tryd.prog W 0 spare held n 39 cs = some x → (x.1.weights Tryd.prog 39).all (· ≤ BND) = true → ∃ a : PtR, (True) ∧ (ptAV a).cells.length = 8 ∧ ∀ k y, (ptAV a).cells[k]? = some y → Vl (C0 W) y (cs.getD k undef) := by
  intro n cs x hl h hw
  obtain ⟨xs, n', _, hx, _, hxl, hf⟩ := DataW.trod_struct Tryd.underlying39 h
  match cs, hl with
  | [c0, c1, c2, c3, c4, c5, c6, c7], _ =>
    have hxl2 : xs.length = 8 := hxl
    match xs, hxl2 with
    | [x0, x1, x2, x3, x4, x5, x6, x7], _ =>
      have e0 : DataW.trod enc Tryd.prog W 0 spare held n' 3 (([c0, c1, c2, c3, c4, c5, c6, c7].drop 0).take (Tryd.prog.cellsOf 3)) = some x0 := hf 0 _ rfl
      rw [cell3] at e0
      have e1 : DataW.trod enc Tryd.prog W 0 spare held n' 3 (([c0, c1, c2, c3, c4, c5, c6, c7].drop 1).take (Tryd.prog.cellsOf 3)) = some x1 := hf 1 _ rfl
      rw [cell3] at e1
      have e2 : DataW.trod enc Tryd.prog W 0 spare held n' 3 (([c0, c1, c2, c3, c4, c5, c6, c7].drop 2).take (Tryd.prog.cellsOf 3)) = some x2 := hf 2 _ rfl
      rw [cell3] at e2
      have e3 : DataW.trod enc Tryd.prog W 0 spare held n' 3 (([c0, c1, c2, c3, c4, c5, c6, c7].drop 3).take (Tryd.prog.cellsOf 3)) = some x3 := hf 3 _ rfl
      rw [cell3] at e3
      have e4 : DataW.trod enc Tryd.prog W 0 spare held n' 9 (([c0, c1, c2, c3, c4, c5, c6, c7].drop 4).take (Tryd.prog.cellsOf 9)) = some x4 := hf 4 _ rfl
      rw [cell9] at e4
      have e5 : DataW.trod enc Tryd.prog W 0 spare held n' 9 (([c0, c1, c2, c3, c4, c5, c6, c7].drop 5).take (Tryd.prog.cellsOf 9)) = some x5 := hf 5 _ rfl
      rw [cell9] at e5
      have e6 : DataW.trod enc Tryd.prog W 0 spare held n' 3 (([c0, c1, c2, c3, c4, c5, c6, c7].drop 6).take (Tryd.prog.cellsOf 3)) = some x6 := hf 6 _ rfl
      rw [cell3] at e6
      have e7 : DataW.trod enc Tryd.prog W 0 spare held n' 3 (([c0, c1, c2, c3, c4, c5, c6, c7].drop 7).take (Tryd.prog.cellsOf 3)) = some x7 := hf 7 _ rfl
      rw [cell3] at e7
      obtain ⟨m0, q0, l0, g0⟩ := dec_int Tryd.underlying3 e0
      obtain rfl : c0 = .int .i64 m0 := by simpa using q0
      obtain ⟨m1, q1, l1, g1⟩ := dec_int Tryd.underlying3 e1
      obtain rfl : c1 = .int .i64 m1 := by simpa using q1
      obtain ⟨m2, q2, l2, g2⟩ := dec_int Tryd.underlying3 e2
      obtain rfl : c2 = .int .i64 m2 := by simpa using q2
      obtain ⟨m3, q3, l3, g3⟩ := dec_int Tryd.underlying3 e3
      obtain rfl : c3 = .int .i64 m3 := by simpa using q3
      obtain ⟨m4, q4, _⟩ := DataW.trod_string u9' e4
      obtain rfl : c4 = .string m4 := by simpa using q4
      obtain ⟨m5, q5, _⟩ := DataW.trod_string u9' e5
      obtain rfl : c5 = .string m5 := by simpa using q5
      obtain ⟨m6, q6, l6, g6⟩ := dec_int Tryd.underlying3 e6
      obtain rfl : c6 = .int .i64 m6 := by simpa using q6
      obtain ⟨m7, q7, l7, g7⟩ := dec_int Tryd.underlying3 e7
      obtain rfl : c7 = .int .i64 m7 := by simpa using q7
      refine ⟨⟨m0, m1, m2, m3, m4, m5, m6, m7⟩, trivial, rfl, fun k y hy => ?_⟩
      match k with
      | 0 => cases hy; exact .raw _
      | 1 => cases hy; exact .raw _
      | 2 => cases hy; exact .raw _
      | 3 => cases hy; exact .raw _
      | 4 => cases hy; exact .raw _
      | 5 => cases hy; exact .raw _
      | 6 => cases hy; exact .raw _
      | 7 => cases hy; exact .raw _
      | k + 8 => simp [ptAV, AV.cells] at hy
theorem cl121 : Tryd.prog.cellsOf 121 = 7 := by kernel_rfl
theorem by121 : Tryd.prog.bytesOf 121 = 64 := by kernel_rfl
set_option maxRecDepth 100000 in
theorem dec_range : ∀ n cs x, cs.length = 7 → DataW.trod enc Tryd.prog W 0 spare held n 121 cs = some x → (x.1.weights Tryd.prog 121).all (· ≤ BND) = true → ∃ a : RangeR, (True) ∧ (rangeAV a).cells.length = 7 ∧ ∀ k y, (rangeAV a).cells[k]? = some y → Vl (C0 W) y (cs.getD k undef) := by
  intro n cs x hl h hw
  obtain ⟨xs, n', _, hx, _, hxl, hf⟩ := DataW.trod_struct Tryd.underlying121 h
  match cs, hl with
  | [c0, c1, c2, c3, c4, c5, c6], _ =>
    have hxl2 : xs.length = 7 := hxl
    match xs, hxl2 with
    | [x0, x1, x2, x3, x4, x5, x6], _ =>
      have e0 : DataW.trod enc Tryd.prog W 0 spare held n' 3 (([c0, c1, c2, c3, c4, c5, c6].drop 0).take (Tryd.prog.cellsOf 3)) = some x0 := hf 0 _ rfl
      rw [cell3] at e0
      have e1 : DataW.trod enc Tryd.prog W 0 spare held n' 3 (([c0, c1, c2, c3, c4, c5, c6].drop 1).take (Tryd.prog.cellsOf 3)) = some x1 := hf 1 _ rfl
      rw [cell3] at e1
      have e2 : DataW.trod enc Tryd.prog W 0 spare held n' 3 (([c0, c1, c2, c3, c4, c5, c6].drop 2).take (Tryd.prog.cellsOf 3)) = some x2 := hf 2 _ rfl
      rw [cell3] at e2
      have e3 : DataW.trod enc Tryd.prog W 0 spare held n' 3 (([c0, c1, c2, c3, c4, c5, c6].drop 3).take (Tryd.prog.cellsOf 3)) = some x3 := hf 3 _ rfl
      rw [cell3] at e3
      have e4 : DataW.trod enc Tryd.prog W 0 spare held n' 5 (([c0, c1, c2, c3, c4, c5, c6].drop 4).take (Tryd.prog.cellsOf 5)) = some x4 := hf 4 _ rfl
      rw [cell5] at e4
      have e5 : DataW.trod enc Tryd.prog W 0 spare held n' 9 (([c0, c1, c2, c3, c4, c5, c6].drop 5).take (Tryd.prog.cellsOf 9)) = some x5 := hf 5 _ rfl
      rw [cell9] at e5
      have e6 : DataW.trod enc Tryd.prog W 0 spare held n' 3 (([c0, c1, c2, c3, c4, c5, c6].drop 6).take (Tryd.prog.cellsOf 3)) = some x6 := hf 6 _ rfl
      rw [cell3] at e6
      obtain ⟨m0, q0, l0, g0⟩ := dec_int Tryd.underlying3 e0
      obtain rfl : c0 = .int .i64 m0 := by simpa using q0
      obtain ⟨m1, q1, l1, g1⟩ := dec_int Tryd.underlying3 e1
      obtain rfl : c1 = .int .i64 m1 := by simpa using q1
      obtain ⟨m2, q2, l2, g2⟩ := dec_int Tryd.underlying3 e2
      obtain rfl : c2 = .int .i64 m2 := by simpa using q2
      obtain ⟨m3, q3, l3, g3⟩ := dec_int Tryd.underlying3 e3
      obtain rfl : c3 = .int .i64 m3 := by simpa using q3
      obtain ⟨m4, q4, l4, g4⟩ := dec_int Tryd.underlying5 e4
      obtain rfl : c4 = .int .u8 m4 := by simpa using q4
      obtain ⟨m5, q5, _⟩ := DataW.trod_string u9' e5
      obtain rfl : c5 = .string m5 := by simpa using q5
      obtain ⟨m6, q6, l6, g6⟩ := dec_int Tryd.underlying3 e6
      obtain rfl : c6 = .int .i64 m6 := by simpa using q6
      refine ⟨⟨m0, m1, m2, m3, m4, m5, m6⟩, trivial, rfl, fun k y hy => ?_⟩
      match k with
      | 0 => cases hy; exact .raw _
      | 1 => cases hy; exact .raw _
      | 2 => cases hy; exact .raw _
      | 3 => cases hy; exact .raw _
      | 4 => cases hy; exact .raw _
      | 5 => cases hy; exact .raw _
      | 6 => cases hy; exact .raw _
      | k + 7 => simp [rangeAV, AV.cells] at hy
theorem cl113 : Tryd.prog.cellsOf 113 = 5 := by kernel_rfl
theorem by113 : Tryd.prog.bytesOf 113 = 72 := by kernel_rfl
set_option maxRecDepth 100000 in
theorem dec_town : ∀ n cs x, cs.length = 5 → DataW.trod enc Tryd.prog W 0 spare held n 113 cs = some x → (x.1.weights Tryd.prog 113).all (· ≤ BND) = true → ∃ a : TownR, (a.texts.length * 16 ≤ BND) ∧ (townAV a).cells.length = 5 ∧ ∀ k y, (townAV a).cells[k]? = some y → Vl (C0 W) y (cs.getD k undef) := by
  intro n cs x hl h hw
  obtain ⟨xs, n', _, hx, _, hxl, hf⟩ := DataW.trod_struct Tryd.underlying113 h
  match cs, hl with
  | [c0, c1, c2, c3, c4], _ =>
    have hxl2 : xs.length = 5 := hxl
    match xs, hxl2 with
    | [x0, x1, x2, x3, x4], _ =>
      have e0 : DataW.trod enc Tryd.prog W 0 spare held n' 3 (([c0, c1, c2, c3, c4].drop 0).take (Tryd.prog.cellsOf 3)) = some x0 := hf 0 _ rfl
      rw [cell3] at e0
      have e1 : DataW.trod enc Tryd.prog W 0 spare held n' 5 (([c0, c1, c2, c3, c4].drop 1).take (Tryd.prog.cellsOf 5)) = some x1 := hf 1 _ rfl
      rw [cell5] at e1
      have e2 : DataW.trod enc Tryd.prog W 0 spare held n' 9 (([c0, c1, c2, c3, c4].drop 2).take (Tryd.prog.cellsOf 9)) = some x2 := hf 2 _ rfl
      rw [cell9] at e2
      have e3 : DataW.trod enc Tryd.prog W 0 spare held n' 9 (([c0, c1, c2, c3, c4].drop 3).take (Tryd.prog.cellsOf 9)) = some x3 := hf 3 _ rfl
      rw [cell9] at e3
      have e4 : DataW.trod enc Tryd.prog W 0 spare held n' 111 (([c0, c1, c2, c3, c4].drop 4).take (Tryd.prog.cellsOf 111)) = some x4 := hf 4 _ rfl
      rw [cell111] at e4
      have hw2 : (x4.1.weights Tryd.prog 111).all (· ≤ BND) = true := by
        subst hx
        simp only [DataW.weights, Tryd.underlying113, DataW.weightsEach, List.map_cons, List.map_nil, List.all_append, Bool.and_eq_true] at hw
        exact hw.2.2.2.2.1
      obtain ⟨m0, q0, l0, g0⟩ := dec_int Tryd.underlying3 e0
      obtain rfl : c0 = .int .i64 m0 := by simpa using q0
      obtain ⟨m1, q1, l1, g1⟩ := dec_int Tryd.underlying5 e1
      obtain rfl : c1 = .int .u8 m1 := by simpa using q1
      obtain ⟨m2, q2, _⟩ := DataW.trod_string u9' e2
      obtain rfl : c2 = .string m2 := by simpa using q2
      obtain ⟨m3, q3, _⟩ := DataW.trod_string u9' e3
      obtain rfl : c3 = .string m3 := by simpa using q3
      obtain ⟨m4, b4, v4⟩ := dec_texts e4 hw2
      refine ⟨⟨m0, m1, m2, m3, m4⟩, b4, rfl, fun k y hy => ?_⟩
      match k with
      | 0 => cases hy; exact .raw _
      | 1 => cases hy; exact .raw _
      | 2 => cases hy; exact .raw _
      | 3 => cases hy; exact .raw _
      | 4 => cases hy; exact v4
      | k + 5 => simp [townAV, townV, AV.cells] at hy
theorem cl117 : Tryd.prog.cellsOf 117 = 6 := by kernel_rfl
theorem by117 : Tryd.prog.bytesOf 117 = 88 := by kernel_rfl
set_option maxRecDepth 100000 in
theorem dec_street : ∀ n cs x, cs.length = 6 → DataW.trod enc Tryd.prog W 0 spare held n 117 cs = some x → (x.1.weights Tryd.prog 117).all (· ≤ BND) = true → ∃ a : StreetR, (a.texts.length * 16 ≤ BND) ∧ (streetAV a).cells.length = 6 ∧ ∀ k y, (streetAV a).cells[k]? = some y → Vl (C0 W) y (cs.getD k undef) := by
  intro n cs x hl h hw
  obtain ⟨xs, n', _, hx, _, hxl, hf⟩ := DataW.trod_struct Tryd.underlying117 h
  match cs, hl with
  | [c0, c1, c2, c3, c4, c5], _ =>
    have hxl2 : xs.length = 6 := hxl
    match xs, hxl2 with
    | [x0, x1, x2, x3, x4, x5], _ =>
      have e0 : DataW.trod enc Tryd.prog W 0 spare held n' 3 (([c0, c1, c2, c3, c4, c5].drop 0).take (Tryd.prog.cellsOf 3)) = some x0 := hf 0 _ rfl
      rw [cell3] at e0
      have e1 : DataW.trod enc Tryd.prog W 0 spare held n' 3 (([c0, c1, c2, c3, c4, c5].drop 1).take (Tryd.prog.cellsOf 3)) = some x1 := hf 1 _ rfl
      rw [cell3] at e1
      have e2 : DataW.trod enc Tryd.prog W 0 spare held n' 9 (([c0, c1, c2, c3, c4, c5].drop 2).take (Tryd.prog.cellsOf 9)) = some x2 := hf 2 _ rfl
      rw [cell9] at e2
      have e3 : DataW.trod enc Tryd.prog W 0 spare held n' 9 (([c0, c1, c2, c3, c4, c5].drop 3).take (Tryd.prog.cellsOf 9)) = some x3 := hf 3 _ rfl
      rw [cell9] at e3
      have e4 : DataW.trod enc Tryd.prog W 0 spare held n' 9 (([c0, c1, c2, c3, c4, c5].drop 4).take (Tryd.prog.cellsOf 9)) = some x4 := hf 4 _ rfl
      rw [cell9] at e4
      have e5 : DataW.trod enc Tryd.prog W 0 spare held n' 111 (([c0, c1, c2, c3, c4, c5].drop 5).take (Tryd.prog.cellsOf 111)) = some x5 := hf 5 _ rfl
      rw [cell111] at e5
      have hw2 : (x5.1.weights Tryd.prog 111).all (· ≤ BND) = true := by
        subst hx
        simp only [DataW.weights, Tryd.underlying117, DataW.weightsEach, List.map_cons, List.map_nil, List.all_append, Bool.and_eq_true] at hw
        exact hw.2.2.2.2.2.1
      obtain ⟨m0, q0, l0, g0⟩ := dec_int Tryd.underlying3 e0
      obtain rfl : c0 = .int .i64 m0 := by simpa using q0
      obtain ⟨m1, q1, l1, g1⟩ := dec_int Tryd.underlying3 e1
      obtain rfl : c1 = .int .i64 m1 := by simpa using q1
      obtain ⟨m2, q2, _⟩ := DataW.trod_string u9' e2
      obtain rfl : c2 = .string m2 := by simpa using q2
      obtain ⟨m3, q3, _⟩ := DataW.trod_string u9' e3
      obtain rfl : c3 = .string m3 := by simpa using q3
      obtain ⟨m4, q4, _⟩ := DataW.trod_string u9' e4
      obtain rfl : c4 = .string m4 := by simpa using q4
      obtain ⟨m5, b5, v5⟩ := dec_texts e5 hw2
      refine ⟨⟨m0, m1, m2, m3, m4, m5⟩, b5, rfl, fun k y hy => ?_⟩
      match k with
      | 0 => cases hy; exact .raw _
      | 1 => cases hy; exact .raw _
      | 2 => cases hy; exact .raw _
      | 3 => cases hy; exact .raw _
      | 4 => cases hy; exact .raw _
      | 5 => cases hy; exact v5
      | k + 6 => simp [streetAV, streetV, AV.cells] at hy
theorem cl30 : Tryd.prog.cellsOf 30 = 4 := by kernel_rfl
theorem cl25 : Tryd.prog.cellsOf 25 = 1 := by kernel_rfl
theorem cl26 : Tryd.prog.cellsOf 26 = 1 := by kernel_rfl
theorem cl27 : Tryd.prog.cellsOf 27 = 1 := by kernel_rfl
theorem cl28 : Tryd.prog.cellsOf 28 = 1 := by kernel_rfl
set_option maxRecDepth 100000 in
theorem dec_refer {r : Reach} {b0 : Nat} {v : Value} {d : DataW H} {ps : List MemPlace} (hval : Value.okWide Tryd.prog W r b0 30 v) (h : DataW.Trod enc Tryd.prog W 0 spare held 30 v d ps) (hw : (d.weights Tryd.prog 30).all (· ≤ BND) = true) :
    ∃ x : ReferR, x.ok ∧ Vl (C0 W) (refO x) v := by
  obtain ⟨cs, rfl, hcs⟩ := okWide_struct Tryd.underlying30 hval
  rw [cl30] at hcs
  obtain ⟨fuel, h⟩ := h
  obtain ⟨xs, n', _, hx, _, hxl, hf⟩ := DataW.trod_struct Tryd.underlying30 h
  obtain ⟨cs⟩ := cs
  have hl : cs.length = 4 := by simpa using hcs
  match cs, hl with
  | [c0, c1, c2, c3], _ =>
    have hxl2 : xs.length = 4 := hxl
    match xs, hxl2 with
    | [x0, x1, x2, x3], _ =>
      have e0 : DataW.trod enc Tryd.prog W 0 spare held n' 25 (([c0, c1, c2, c3].drop 0).take (Tryd.prog.cellsOf 25)) = some x0 := hf 0 _ rfl
      have e1 : DataW.trod enc Tryd.prog W 0 spare held n' 26 (([c0, c1, c2, c3].drop 1).take (Tryd.prog.cellsOf 26)) = some x1 := hf 1 _ rfl
      have e2 : DataW.trod enc Tryd.prog W 0 spare held n' 27 (([c0, c1, c2, c3].drop 2).take (Tryd.prog.cellsOf 27)) = some x2 := hf 2 _ rfl
      have e3 : DataW.trod enc Tryd.prog W 0 spare held n' 28 (([c0, c1, c2, c3].drop 3).take (Tryd.prog.cellsOf 28)) = some x3 := hf 3 _ rfl
      rw [cl25] at e0; rw [cl26] at e1; rw [cl27] at e2; rw [cl28] at e3
      obtain ⟨rfl, _⟩ := Prod.mk.inj hx
      simp only [DataW.weights, Tryd.underlying30, DataW.weightsEach, List.map_cons, List.map_nil, List.all_append, Bool.and_eq_true] at hw
      obtain ⟨w0, w1, w2, w3, _⟩ := hw
      obtain ⟨d0, p0⟩ := x0; obtain ⟨d1, p1⟩ := x1; obtain ⟨d2, p2⟩ := x2; obtain ⟨d3, p3⟩ := x3
      obtain ⟨T, a0, b0, v0⟩ := vl_sliceW townAV (fun t => t.texts.length * 16 ≤ BND) (by decide) Tryd.underlying25 cl113 by113 e0 w0 dec_town
      obtain ⟨S, a1, b1, v1⟩ := vl_sliceW streetAV (fun t => t.texts.length * 16 ≤ BND) (by decide) Tryd.underlying26 cl117 by117 e1 w1 dec_street
      obtain ⟨R, a2, b2, v2⟩ := vl_sliceW rangeAV (fun _ => True) (by decide) Tryd.underlying27 cl121 by121 e2 w2 dec_range
      obtain ⟨Q, a3, b3, v3⟩ := vl_sliceW ptAV (fun _ => True) (by decide) Tryd.underlying28 cl39 by39 e3 w3 dec_pt
      refine ⟨⟨T, S, R, Q⟩, ⟨b0, b1, b2, b3, a0, a1⟩, .agg rfl fun k y hy => ?_⟩
      match k with
      | 0 => cases hy; exact v0
      | 1 => cases hy; exact v1
      | 2 => cases hy; exact v2
      | 3 => cases hy; exact v3
      | k + 4 => simp at hy
end
set_option maxRecDepth 100000 in
theorem deliverValid_lifted (os : Os) (started : os.Started) (H : Type) (enc : TypeId × Value → H) :
    ReturnsInHanded {} Tryd.checked os 7 .any (fun w args => (YtghoaglolhdoeaaDoor.Rows.deliverValidSpec.pre enc Tryd.prog Tryd.f7 [] false w args ∧ laidMetH Tryd.prog LAID w) ∧ sizedMet enc Tryd.prog Tryd.f7 (OpenSpec.ofChange YtghoaglolhdoeaaDoor.Rows.deliverValidSpec) false w args)
      (YtghoaglolhdoeaaDoor.Rows.deliverValidSpec.post enc Tryd.prog Tryd.f7 false true false false) := by
  refine returnsInHanded_of_change_and (C := Tryd.checked) (X := fun w _ => laidMetH Tryd.prog LAID w) (fun _ _ _ hh h => h.of_heap hh) own started (by kernel_rfl) Tryd.func7
    (ChangeSpec.witness_shaped (enc := enc) (C := Tryd.checked) (os := os) (X := fun w _ => laidMetH Tryd.prog LAID w) false (World.laidAll Tryd.prog os LAID) #[.agg #[.slice none 0 0, .slice none 0 0, .slice none 0 0, .slice none 0 0], .slice none 0 0] 8 (World.laidAll_os _ _ _)
      (World.shaped_of_ZipB (by kernel_rfl) (by kernel_rfl)) (by kernel_rfl) (by kernel_rfl) (by kernel_rfl)
      (by rw [MakeChecks.laidMetH_plain _ _ _ (by kernel_rfl)]; exact laidMet_laidAll _ (by kernel_rfl) (by kernel_rfl))) ?_
  intro W base args ds gs before hval0 hW _ hwt hL _
  have hL' : laidMet Tryd.prog LAID W := by rw [← MakeChecks.laidMetH_plain _ _ _ (by kernel_rfl)]; exact hL
  have hval : ∀ (j : Nat) t v, Tryd.f7.params[j]? = some t → args[j]? = some v → Value.okWide Tryd.prog W .any base t v := hval0
  have hW' := hW
  obtain ⟨p, q, hA0, hV, rfl, _, _⟩ := hW
  have hA : DataW.TrodAll enc Tryd.prog W 0 (fun _ => true) true Tryd.f7.params.toList args.toList ds p := hA0
  have hwt2 : (DataW.weightsEach Tryd.prog (Tryd.f7.params.toList ++ YtghoaglolhdoeaaDoor.Rows.deliverValidSpec.plain.varTypes Tryd.prog) (ds ++ gs)).all (· ≤ BND) = true := by rw [← bndR]; exact hwt
  rw [Tryd.params7] at hA hval hwt2
  obtain ⟨v0, v1, d0, d1, p0, p1, rfl, rfl, rfl, h0, h1⟩ := trodAll_two hA
  obtain ⟨rfl, rfl⟩ := trodVars_none hV
  have hlt : ∀ x ∈ p0 ++ p1 ++ [], x.block < W.heap.size := fun x hx => hW'.lt x hx
  simp only [List.cons_append, List.nil_append, DataW.weightsEach, List.all_append, Bool.and_eq_true] at hwt2
  obtain ⟨r, hr, hr3⟩ := dec_refer (hval 0 30 v0 rfl rfl) h0 hwt2.1
  obtain ⟨_, _, _, rfl⟩ := okWide_slice Tryd.underlying32 (hval 1 32 v1 rfl rfl)
  obtain ⟨fuel1, h1t⟩ := h1
  obtain ⟨l, hl1, hl2, hl3⟩ := vl_sliceW ruleAV RuleR.ok (by decide) Tryd.underlying32 cl37 by37 h1t hwt2.2.1 dec_rule
  have hc := pure_calls (valid7_ok r hr false l hl2 hl1) (glOk hL') (args_cons hr3 (args_cons hl3 args_nil))
  refine hc.mono fun e W' ⟨he, hb⟩ => ?_
  subst he
  have h0' := Below.trod laidOut (by kernel_rfl) (of_decide_eq_true (by kernel_rfl)) h0 hb (fun x hx => hlt x (List.mem_append_left _ (List.mem_append_left _ hx)))
  have h1' := Below.trod laidOut (by kernel_rfl) (of_decide_eq_true (by kernel_rfl)) ⟨fuel1, h1t⟩ hb (fun x hx => hlt x (List.mem_append_left _ (List.mem_append_right _ hx)))
  exact ⟨_, rfl, _, _, _, [], _, [], hW', trodAll_mk1 (shut_bool Tryd.underlying4 _), trodAll_mk2 h0' h1', rfl, hb.frame _, fun h => by cases h⟩
end Go.Ab.D
