/- What functions of this program compute, and the laws of what they compute, under the bounds on lengths that each contract states. -/
import Derived.Test.YtegbbhaghlcckaaGD

set_option linter.unusedSimpArgs false
set_option linter.unusedVariables false
namespace Go.Ab
open Go
section
variable {P : Program} {F : Frm} {H : Heap}
/-- A slice with elements is not nil. -/
theorem o_eqn {t t' e : TypeId} {x : Operand} {z : Nat} {b : Fl} {es : List AV} (ht : sliceElem P t = some e) (hx : evx F x = some (.sl z b es)) (hne : es ≠ []) :
    OpOk P (.binOp .eql t x (.const (.slice none 0 0)) t') F H (.raw (.bool false)) H := .still fun K C ρ oo ho hp hH hρ => by
  have h := evx_eq hx ▸ hρ x
  have hc : ρ (.const (.slice none 0 0)) = .slice none 0 0 := Vl.raw_inv (hρ (.const (.slice none 0 0)))
  generalize hr : ρ x = r at h
  cases h with
  | sl g hz hcap hfull hn hs ha hL hx' =>
    rename_i a cap
    refine ⟨.bool false, ?_, .raw _⟩
    have hu := sliceElem_spec ht
    have hpos := List.length_pos_iff.2 hne
    cases a with
    | none => have := hn rfl; omega
    | some ad =>
      have he : (Op.equal t (.slice (some ad) es.length cap) (.slice none 0 0)).run P C.w = .ok false C.w := by
        show (Op.equalIn (9999 + 1) t _ _).run P C.w = _
        unfold Op.equalIn
        rw [Sem.run_bind, run_underlying hu]; rfl
      simp only [execOp, ho, hr, hc]
      rw [Sem.run_bind, Sem.run_bind]
      show (Result.andThen (Result.andThen (Result.ok () C.w) fun _ w => Sem.run P (do pure (Value.bool (← Op.equal t (.slice (some ad) es.length cap) (.slice none 0 0)))) w) _) = _
      rw [Result.andThen_ok, Sem.run_bind, he]; rfl
/-- A variable, made in its place. -/
theorem o_alD {t : TypeId} {zs : List Value} {cs : List AV} {q : Nat} (hz : tzero P t = some zs) (hc : rawsX zs = some cs) (hq : H[q]? = some .dead) : OpOk P (.alloc t) F H (.ptr q 0) (H.set q (.var cs)) := by
  intro K C ρ oo ho hp hH hρ
  subst hH
  have hql := get_lt hq
  obtain ⟨z, h1, h2⟩ := tzero_run hz C.w
  have hcl := cells_list h2
  have hcs := rawsX_eq _ _ hc
  subst hcs
  have := hp.upd { C.w with heap := C.w.heap.push (.cells z.cells t) } q hql (.var (zs.map .raw)) (some C.w.heap.size) 0 rfl rfl rfl (by simp) (fun b hb _ => by simp [Array.getElem?_push]; intro h; omega) (.inr ⟨_, rfl, Nat.le_refl _, by simp⟩) _ rfl (by rw [hq]; trivial)
    (fun ex => ⟨C.w.heap.size, z.cells, t, by simp, by simp, by rw [hcl]; simp, fun k y hy => by rw [hcl]; exact vl_raws hy⟩)
  refine ⟨.value (.pointer (some ⟨C.w.heap.size, 0, none⟩)), _, _, by simp [execOp, ho, Instr.alloc, newVar, newRow, h1], .inl rfl, this.1, this.2, ?_, rfl⟩
  exact .ptr ⟨zs.map .raw, by simp [hql]⟩ (by simp)
end
end Go.Ab
