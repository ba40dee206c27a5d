/- A program logic over the model: contracts of calls, proved from the model alone, without conditions. -/
import Derived.Test.YtghoaglolhdoeaaDoorAb25
set_option linter.unusedSimpArgs false
set_option linter.unusedVariables false
namespace Go.Ab
open Go
section
variable {P : Program} {F : Frm} {H : Heap}
/-- make, into its place. -/
theorem o_msD {t e : TypeId} {l c : Operand} {z bytes q : Nat} {zs : List Value} {x : AV} {kl kc : IntKind} {n m : Int} {es0 : List AV} (he : ElemOk P t e z zs x bytes) (hl : evx F l = some (.raw (.int kl n))) (hc : evx F c = some (.raw (.int kc m))) (h0 : 0 ≤ n) (hnm : n ≤ m)
    (hb : (bytes : Int) * m ≤ 281474976710656) (h63 : m ≤ 9223372036854775807) (hq : H[q]? = some (.vec z 0 es0)) : OpOk P (.makeSlice t l c) F H (.slo q 1 0 n.toNat) (H.set q (.vec z 1 (List.replicate n.toNat x))) := by
  intro K C ρ oo ho hp hH hρ
  subst hH
  have hql := get_lt hq
  have hz := he.hz; have hby := he.hby; have hzero := he.hzero; have hzl := he.hzl; have hz0 := he.hz0
  have h1 : ρ l = .int kl n := Vl.raw_inv (evx_eq hl ▸ hρ l)
  have h2 : ρ c = .int kc m := Vl.raw_inv (evx_eq hc ▸ hρ c)
  obtain ⟨ii, hii⟩ : ∃ ii, P.info? e = some ii := by
    unfold tsize at hz; cases h : P.info? e with
    | none => simp [h] at hz
    | some ii => exact ⟨ii, rfl⟩
  have hiz : ii.size = z := by simp [tsize, hii] at hz; exact hz
  have hib : ii.bytes = bytes := by simp [tbytes, hii] at hby; exact hby
  obtain ⟨zv, hzv⟩ : ∃ zv, ii.zero = some zv := by
    cases h : ii.zero with
    | none => simp [tzero, hii, h] at hzero
    | some zv => exact ⟨zv, rfl⟩
  have hzc : zv.cells = zs.toArray := by
    simp [tzero, hii, hzv] at hzero; rw [← hzero]
  have hr := run_make C.w t e ii zv (sliceElem_spec he.ht) hii hzv kl kc n m h0 hnm (by rw [hib]; exact hb) h63 (P := P)
  have hxc := zeroAV_cells he.hx hzero he.hraw
  have hcs : (madeCells zv.cells (m.toNat * ii.size)).size = m.toNat * z := by simp [madeCells, hiz]
  have := hp.upd (C.w.alloc (.cells (madeCells zv.cells (m.toNat * ii.size)) e)) q hql (.vec z 1 (List.replicate n.toNat x)) (some C.w.heap.size) m.toNat rfl rfl rfl (by simp) (fun b hb _ => heap_alloc_old C.w _ b hb) (.inr ⟨_, rfl, Nat.le_refl _, by simp⟩) _ rfl (by rw [hq]; exact ⟨rfl, by omega, fun h => by omega⟩)
    (fun ex => ⟨hz0, fun q hq => by rw [List.eq_of_mem_replicate hq, hxc]; simpa using hzl, by simp; omega, .inr ⟨C.w.heap.size, _, e, by simp, World.alloc_heap_new C.w _, by simpa using hcs, fun k y hk => by
      obtain ⟨g1, g2⟩ := flat_replicate n.toNat x zs hxc (by omega) k y hk
      rw [g1]
      have hkm : k < m.toNat * ii.size := by
        have : n.toNat * zs.length ≤ m.toNat * zs.length := Nat.mul_le_mul_right _ (by omega)
        rw [hiz, ← hzl]; omega
      have hmod : k % zs.length < zs.length := Nat.mod_lt _ (by omega)
      have : (madeCells zv.cells (m.toNat * ii.size)).getD k undef = zs.getD (k % zs.length) undef := by
        simp [madeCells, hkm, hzc, hmod, List.getD]
      rw [this]; exact .raw _⟩⟩)
  refine ⟨.value (.slice (some ⟨C.w.heap.size, 0, none⟩) n.toNat m.toNat), _, _, ?_, .inl rfl, this.1, this.2, ?_, rfl⟩
  · simp only [execOp, ho, h1, h2, Sem.run_bind, hr, Result.andThen_ok, Sem.run_pure]
  · refine .slo (by simpa using hql) (fun z' v0 es hes => ?_) (fun z' es hes => ?_)
    · simp [hql] at hes; omega
    · simp [hql] at hes
      obtain ⟨_, rfl⟩ := hes
      simp
end
end Go.Ab
