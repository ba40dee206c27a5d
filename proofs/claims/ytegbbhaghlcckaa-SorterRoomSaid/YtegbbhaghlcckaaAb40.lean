/- What functions of this program compute, and the laws of what they compute, under the bounds on lengths that each contract states. -/
import Derived.Test.YtegbbhaghlcckaaGC

set_option linter.unusedSimpArgs false
set_option linter.unusedVariables false
namespace Go.Ab
open Go Go.ChangeShapes Go.WideShapes
section
variable {H : Type} {enc : TypeId × Value → H} {P : Program} {W : World} {spare : Nat → Bool} {held : Bool}
/-- A row of elements that are read one by one. -/
theorem vl_sliceN {α : Type} {t e : TypeId} {z fuel : Nat} {v : Value} {d : DataW H} {ps : List MemPlace} (f : α → AV) (Pre : α → Prop) (hz : 0 < z) (ht : P.underlying t = some (.slice e)) (hc : P.cellsOf e = z)
    (h : DataW.trod enc P W 0 spare held fuel t [v] = some (d, ps))
    (dec : ∀ n cs x, cs.length = z → DataW.trod enc P W 0 spare held n e cs = some x → ∃ a, Pre a ∧ (f a).cells.length = z ∧ ∀ k y, (f a).cells[k]? = some y → Vl (C0 W) y (cs.getD k undef)) :
    ∃ l : List α, (∀ a ∈ l, Pre a) ∧ l.length ≤ maxLen ∧ Vl (C0 W) (.sl z false (l.map f)) v := by
  rcases Deep.open_slice ht h with ⟨h1, _⟩ | ⟨a, len0, cap0, m, n, D, Pl, h1, _, hlc, hcm, hm, _, hx⟩
  · obtain rfl : v = .slice none 0 0 := by simpa using h1
    exact ⟨[], by simp, by simp, .sl (es := []) (fun _ => undef) hz (Nat.le_refl _) (by simp) (fun _ => rfl) (fun e he => by cases he) (fun x hx => by cases hx) (fun _ x hx => by cases hx) (fun k x hx => by simp [flat] at hx)⟩
  · obtain rfl : v = .slice (some a) len0 cap0 := by simpa using h1
    have hlm : len0 ≤ m := by rw [hm]; split <;> omega
    have each : ∀ i : Nat, ∃ a' : Option (α × List Value), i < len0 → ∃ x cs', a' = some (x, cs') ∧ W.cells? 0 (a.add (i * z)) z = some cs' ∧ Pre x ∧ (f x).cells.length = z ∧ ∀ k y, (f x).cells[k]? = some y → Vl (C0 W) y (cs'.getD k undef) := fun i => by
      by_cases hi : i < len0
      · obtain ⟨cs', hcs, htr⟩ := hx i (by omega)
        rw [hc] at hcs
        obtain ⟨x, h1, h2, h3⟩ := dec n cs' _ (World.cells?_some hcs).2.1 htr
        exact ⟨some (x, cs'), fun _ => ⟨x, cs', rfl, hcs, h1, h2, h3⟩⟩
      · exact ⟨none, fun h => absurd h hi⟩
    obtain ⟨F, hF⟩ : ∃ F : Nat → Option (α × List Value), ∀ i, i < len0 → ∃ x cs', F i = some (x, cs') ∧ W.cells? 0 (a.add (i * z)) z = some cs' ∧ Pre x ∧ (f x).cells.length = z ∧ ∀ k y, (f x).cells[k]? = some y → Vl (C0 W) y (cs'.getD k undef) :=
      ⟨fun i => Classical.choose (each i), fun i hi => Classical.choose_spec (each i) hi⟩
    let l : List α := (List.range len0).filterMap fun i => (F i).map (·.1)
    have hl : ∀ i, i < len0 → ∃ x cs', l[i]? = some x ∧ F i = some (x, cs') := by
      have key : ∀ n, n ≤ len0 → ((List.range n).filterMap fun i => (F i).map (·.1)).length = n ∧ ∀ i, i < n → ∃ x cs', ((List.range n).filterMap fun i => (F i).map (·.1))[i]? = some x ∧ F i = some (x, cs') := by
        intro n
        induction n with
        | zero => exact fun _ => ⟨rfl, fun i hi => by omega⟩
        | succ n ih =>
          intro hn
          obtain ⟨i1, i2⟩ := ih (by omega)
          obtain ⟨x, cs', hFn, _⟩ := hF n (by omega)
          rw [List.range_succ, List.filterMap_append]
          have hone : (List.filterMap (fun i => (F i).map (·.1)) [n]) = [x] := by simp [hFn]
          rw [hone]
          refine ⟨by simp [i1], fun i hi => ?_⟩
          rcases Nat.lt_or_ge i n with h | h
          · obtain ⟨y, c, h1, h2⟩ := i2 i h
            exact ⟨y, c, by rw [List.getElem?_append_left (by omega)]; exact h1, h2⟩
          · have : i = n := by omega
            subst this
            exact ⟨x, cs', by rw [List.getElem?_append_right (by omega), i1]; simp, hFn⟩
      exact (key len0 (Nat.le_refl _)).2
    have hll : l.length = len0 := by
      have key : ∀ n, n ≤ len0 → ((List.range n).filterMap fun i => (F i).map (·.1)).length = n := by
        intro n
        induction n with
        | zero => exact fun _ => rfl
        | succ n ih =>
          intro hn
          obtain ⟨x, cs', hFn, _⟩ := hF n (by omega)
          rw [List.range_succ, List.filterMap_append, List.length_append, ih (by omega)]
          simp [hFn]
      exact key len0 (Nat.le_refl _)
    have hat : ∀ i x, l[i]? = some x → ∃ cs', W.cells? 0 (a.add (i * z)) z = some cs' ∧ Pre x ∧ (f x).cells.length = z ∧ ∀ k y, (f x).cells[k]? = some y → Vl (C0 W) y (cs'.getD k undef) := fun i x hxi => by
      have hi : i < len0 := by rw [← hll]; exact get_lt hxi
      obtain ⟨x1, c1, e1, e2⟩ := hl i hi
      obtain ⟨x2, c2, e3, e4, e5, e6, e7⟩ := hF i hi
      rw [e1] at hxi; cases hxi
      rw [e2] at e3; cases e3
      exact ⟨c1, e4, e5, e6, e7⟩
    have hmem : ∀ x ∈ l, ∃ i, l[i]? = some x := fun x hx => List.getElem?_of_mem hx
    refine ⟨l, fun x hx => by obtain ⟨i, hi⟩ := hmem x hx; obtain ⟨_, _, h, _⟩ := hat i x hi; exact h, by omega, ?_⟩
    have hz' : ∀ e ∈ l.map f, e.cells.length = z := fun e he => by
      obtain ⟨x, hx, rfl⟩ := List.mem_map.1 he
      obtain ⟨i, hi⟩ := hmem x hx
      obtain ⟨_, _, _, h, _⟩ := hat i x hi
      exact h
    -- cell by cell
    have hcell : ∀ i, i < len0 → ∀ j, j < z → ∃ cs', W.cells? 0 (a.add (i * z)) z = some cs' ∧ W.cell? ⟨a.block, a.off + (i * z + j), none⟩ = some (cs'.getD j undef) := fun i hi j hj => by
      obtain ⟨x, cs', _, h1, _⟩ := hF i hi
      obtain ⟨_, h2, h3⟩ := World.cells?_some h1
      refine ⟨cs', h1, ?_⟩
      have hsp : a.spot = none := by
        obtain ⟨y, c2, _, g1, _⟩ := hF 0 (by omega)
        obtain ⟨_, g2, g3⟩ := World.cells?_some g1
        have := g3 0 hz
        rw [List.getElem?_eq_getElem (by omega)] at this
        have := (cell_block this).1
        simpa [Addr.add] using this
      have h4 := h3 j hj
      have hadd : (a.add (i * z)).add j = ⟨a.block, a.off + (i * z + j), none⟩ := by
        obtain ⟨b, o, s⟩ := a
        simp only at hsp; subst hsp
        rw [add_none, add_none]; simp [Nat.add_assoc]
      rw [hadd] at h4
      rw [h4, List.getElem?_eq_getElem (by omega)]
      simp [List.getD, List.getElem?_eq_getElem (show j < cs'.length by omega)]
    have : (l.map f).length = len0 := by rw [List.length_map]; exact hll
    rw [← this]
    refine .sl (fun k => (W.cell? ⟨a.block, a.off + k, none⟩).getD undef) hz (by rw [this]; exact hlc) (by simp) (fun h => by cases h) hz' (fun x hx hne => ?_) (fun _ x hx hne h => h) (fun k y hy => ?_)
    · cases hx
      have hpos : 0 < len0 := by rw [← this]; exact List.length_pos_iff.2 hne
      have hsp : a.spot = none := by
        obtain ⟨y, c2, _, g1, _⟩ := hF 0 hpos
        obtain ⟨_, g2, g3⟩ := World.cells?_some g1
        have := g3 0 hz
        rw [List.getElem?_eq_getElem (by omega)] at this
        have := (cell_block this).1
        simpa [Addr.add] using this
      refine ⟨hsp, c0_bad, fun k hk => ?_⟩
      rw [this] at hk
      have hdm := Nat.div_add_mod k z
      have h1 : k / z < len0 := by rw [Nat.div_lt_iff_lt_mul hz]; exact hk
      obtain ⟨cs', _, h2⟩ := hcell (k / z) h1 (k % z) (Nat.mod_lt _ hz)
      rw [show k / z * z + k % z = k by rw [Nat.mul_comm]; exact hdm] at h2
      show W.cell? _ = some ((W.cell? _).getD undef)
      rw [h2]; rfl
    · have hk : k < len0 * z := by
        have h9 := get_lt hy
        rw [flat_length hz', this] at h9; exact h9
      have hdm := Nat.div_add_mod k z
      have h1 : k / z < len0 := by rw [Nat.div_lt_iff_lt_mul hz]; exact hk
      obtain ⟨x, c1, e1, e2⟩ := hl (k / z) h1
      obtain ⟨cs', g1, _, _, g2⟩ := hat _ _ e1
      obtain ⟨cs2, g3, g4⟩ := hcell (k / z) h1 (k % z) (Nat.mod_lt _ hz)
      rw [g1] at g3; cases g3
      have hkk : k / z * z + k % z = k := by rw [Nat.mul_comm]; exact hdm
      rw [hkk] at g4
      rw [g4]
      have := flat_get hz' (j := k / z) (e := f x) (by simp [e1]) (k := k % z) (Nat.mod_lt _ hz)
      rw [hkk, hy] at this
      exact g2 _ y this.symm

end
end Go.Ab
