/- A program logic over the model: contracts of calls, proved from the model alone, without conditions. -/
import Derived.Test.YtghoaglolhdoeaaDoorAb11
set_option linter.unusedSimpArgs false
set_option linter.unusedVariables false
namespace Go.Ab
open Go

theorem foldl_set (off : Nat) : ∀ (l : List Value) (k : Nat) (cs : Array Value), off + k + l.length ≤ cs.size →
    (l.zipIdx k).foldl (fun cs (x : Value × Nat) => cs.setIfInBounds (off + x.2) x.1) cs = (splice cs.toList (off + k) l).toArray
  | [], k, cs, h => by simp [splice]
  | c :: l, k, cs, h => by
    simp only [List.zipIdx_cons, List.foldl_cons]
    simp only [List.length_cons] at h
    rw [foldl_set off l (k + 1) _ (by simp; omega)]
    congr 1
    apply List.ext_getElem?
    intro q
    rw [splice_get _ _ _ (by simp; omega), splice_get _ _ _ (by simp; omega)]
    simp only [Array.toList_setIfInBounds, List.length_cons]
    by_cases h1 : off + (k + 1) ≤ q ∧ q < off + (k + 1) + l.length
    · rw [if_pos h1, if_pos (by omega), show q - (off + k) = (q - (off + (k + 1))) + 1 by omega, List.getElem?_cons_succ]
    · rw [if_neg h1]
      by_cases h2 : q = off + k
      · subst h2
        rw [if_pos (by omega)]
        have : off + k < cs.toList.length := by simp; omega
        simp [List.getElem?_set_self this]
      · rw [if_neg (by omega), List.getElem?_set_ne (by omega)]

theorem fill_step (place : Nat → Option (Nat × Nat)) (cells : Array Value) (i off size : Nat) (v : Value) (rest : List (Nat × Value)) (hp : place i = some (off, size)) (hs : v.cells.size = size) (hl : off + size ≤ cells.size) :
    Instr.fill place cells ((i, v) :: rest) = Instr.fill place (splice cells.toList off v.cells.toList).toArray rest := by
  simp only [Instr.fill, hp]
  have hc : ¬ ((v.cells.size ≠ size || off + v.cells.size > cells.size) = true) := by simp [hs]; omega
  rw [if_neg hc]
  congr 1
  rw [← Array.foldl_toList, Array.toList_zipIdx]
  have := foldl_set off v.cells.toList 0 cells (by simp; omega)
  simpa using this

/-- Parts put into their places. -/
def afill (pl : Nat → Option (Nat × Nat)) (H : Heap) : List AV → List (Nat × AV) → Option (List AV)
  | cells, [] => some cells
  | cells, (i, v) :: rest => match pl i with
    | none => none
    | some (off, size) => if v.cells.length = size ∧ off + size ≤ cells.length ∧ v.goodPart H = true then afill pl H (splice cells off v.cells) rest else none

def CellsOk (C : Ctx) (cs : List AV) (c : Array Value) : Prop := c.size = cs.length ∧ ∀ k x, cs[k]? = some x → Vl C x (c.getD k undef)

theorem CellsOk.splice {C : Ctx} {cs xs : List AV} {c : Array Value} {us : List Value} {off : Nat} (h : CellsOk C cs c) (hl : us.length = xs.length) (hle : off + xs.length ≤ cs.length)
    (hx : ∀ k x, xs[k]? = some x → Vl C x (us.getD k undef)) : CellsOk C (splice cs off xs) (splice c.toList off us).toArray := by
  have hc := h.1
  refine ⟨by rw [List.size_toArray, splice_length c.toList off us (by simp; omega), splice_length cs off xs hle]; simpa using hc, fun k x hk => ?_⟩
  rw [splice_get cs off xs hle] at hk
  have e1 : (Go.Ab.splice c.toList off us).toArray.getD k undef = ((Go.Ab.splice c.toList off us)[k]?).getD undef := by simp
  rw [e1, splice_get c.toList off us (by simp; omega), hl]
  split
  · rename_i h1
    rw [if_pos h1] at hk
    simpa [List.getD] using hx _ x hk
  · rename_i h1
    rw [if_neg h1] at hk
    simpa using h.2 k x hk

theorem afill_ok {C : Ctx} {pl : Nat → Option (Nat × Nat)} {ρ : Operand → Value} {F : Frm} (hρ : ∀ x, Vl C (ev F x) (ρ x)) :
    ∀ (parts : List (Nat × Operand)) (cs : List AV) (c : Array Value) (out : List AV), CellsOk C cs c → afill pl C.H cs (parts.map fun p => (p.1, ev F p.2)) = some out →
    ∃ c', Instr.fill pl c (parts.map fun p => (p.1, ρ p.2)) = some c' ∧ CellsOk C out c'
  | [], cs, c, out, h, hf => by simp [afill] at hf; subst hf; exact ⟨c, rfl, h⟩
  | (i, x) :: rest, cs, c, out, h, hf => by
    simp only [List.map_cons, afill] at hf
    split at hf
    · cases hf
    · rename_i off size hpl
      split at hf
      · rename_i hc
        obtain ⟨h1, h2, h3⟩ := hc
        obtain ⟨g1, g2, g3⟩ := part_cells (hρ x) h3
        obtain ⟨c', e1, e2⟩ := afill_ok hρ rest _ (splice c.toList off (ρ x).cells.toList).toArray out (h.splice (by simpa using g1) (by omega) (fun k y hy => by
          have := g2 k y hy
          simpa [List.getD] using this)) hf
        refine ⟨c', ?_, e2⟩
        simp only [List.map_cons]
        rw [fill_step pl c i off size (ρ x) _ hpl (by omega) (by have := h.1; omega)]
        exact e1
      · cases hf

section
variable {P : Program} {F : Frm} {H : Heap}

def fieldPlaces (P : Program) (fs : List Field) : Option (List (Nat × Nat)) :=
  match fs with
  | [] => some []
  | f :: fs => match tsize P f.type, fieldPlaces P fs with
    | some n, some l => some ((f.offset, n) :: l)
    | _, _ => none

theorem fieldPlaces_run : ∀ (fs : List Field) (l : List (Nat × Nat)), fieldPlaces P fs = some l → ∀ w, (fs.mapM (fun f => do pure (f.offset, ← sizeOf f.type) : Field → Sem (Nat × Nat))).run P w = .ok l w
  | [], l, h, w => by simp [fieldPlaces] at h; subst h; simp
  | f :: fs, l, h, w => by
    simp only [fieldPlaces] at h
    split at h <;> simp at h
    rename_i n l' h1 h2
    subst h
    have := fieldPlaces_run fs l' h2 w
    simp only [List.mapM_cons, Sem.run_bind, tsize_run h1, Result.andThen_ok, Sem.run_pure, this]

def structPlaces (P : Program) (t : TypeId) : Option (List (Nat × Nat)) := match P.underlying t with
  | some (.struct fs) => fieldPlaces P fs.toList
  | _ => none

theorem cellsOk_raws {C : Ctx} (zs : List Value) : CellsOk C (zs.map .raw) zs.toArray := ⟨by simp, fun _ _ h => vl_raws h⟩

theorem ok_build {t : TypeId} {parts : Array (Nat × Operand)} {zs : List Value} {pl : List (Nat × Nat)} {out : List AV} (hz : tzero P t = some zs) (hpl : structPlaces P t = some pl)
    (hf : afill (pl[·]?) H (zs.map .raw) (parts.toList.map fun p => (p.1, ev F p.2)) = some out) : OpOk P (.build t parts) F H (.agg out) H := .still fun K C ρ oo ho hp hH hρ => by
  subst hH
  unfold structPlaces at hpl
  split at hpl
  · rename_i fs hfs
    obtain ⟨zv, h1, h2⟩ := tzero_run (P := P) hz C.w
    obtain ⟨c', e1, e2⟩ := afill_ok hρ parts.toList _ zs.toArray out (cellsOk_raws zs) hf
    refine ⟨.agg c', ?_, .agg e2.1 e2.2⟩
    have hm := fieldPlaces_run (P := P) fs.toList pl hpl C.w
    have hm' : (fs.mapM (fun f => do pure (f.offset, ← sizeOf f.type) : Field → Sem (Nat × Nat))).run P C.w = .ok pl.toArray C.w := by
      rw [Array.mapM_eq_mapM_toList, Sem.run_map, hm]; rfl
    have hfill : Instr.fill (fun i => pl.toArray[i]?) zv.cells (parts.map fun (i, x) => (i, ρ x)).toList = some c' := by
      rw [cells_list h2]
      simpa using e1
    simp only [execOp, ho, Instr.build, Sem.run_bind, h1, Result.andThen_ok, run_underlying hfs, hm', hfill, Sem.run_pure]
  · cases hpl

/-- The zero value of a type. -/
def zeroAV (P : Program) (t : TypeId) : Option AV := match tagg P t, tzero P t with
  | some true, some zs => some (.agg (zs.map .raw))
  | some false, some [z] => some (.raw z)
  | _, _ => none

theorem zeroAV_cells {t : TypeId} {x : AV} {zs : List Value} (h : zeroAV P t = some x) (hz : tzero P t = some zs) (hraw : ∀ z ∈ zs, z.oneCell' = true) : x.cells = zs.map .raw := by
  unfold zeroAV at h
  rw [hz] at h
  split at h
  · rename_i zs' _ he
    cases he; cases h; rfl
  · rename_i z _ he
    cases he; cases h
    rfl
  · cases h

theorem flat_replicate (n : Nat) (x : AV) (zs : List Value) (hx : x.cells = zs.map .raw) (h0 : 0 < zs.length) (k : Nat) (y : AV) (hk : (flat (List.replicate n x))[k]? = some y) : y = .raw (zs.getD (k % zs.length) undef) ∧ k < n * zs.length := by
  induction n generalizing k with
  | zero => simp [flat] at hk
  | succ n ih =>
    simp only [List.replicate_succ, flat, List.flatMap_cons] at hk
    have hl : x.cells.length = zs.length := by rw [hx]; simp
    rcases Nat.lt_or_ge k zs.length with h | h
    · rw [List.getElem?_append_left (by omega), hx] at hk
      simp [h] at hk
      refine ⟨?_, by rw [Nat.succ_mul]; omega⟩
      rw [← hk, Nat.mod_eq_of_lt h]
      simp [List.getD, h]
    · rw [List.getElem?_append_right (by omega), hl] at hk
      obtain ⟨h1, h2⟩ := ih (k - zs.length) hk
      refine ⟨?_, by rw [Nat.succ_mul]; omega⟩
      rw [h1, Nat.mod_eq_sub_mod h]

theorem ok_makeSlice {t e : TypeId} {l c : Operand} {kl kc : IntKind} {n m : Int} {z bytes : Nat} {zs : List Value} {x : AV} (ht : sliceElem P t = some e) (hz : tsize P e = some z) (hby : tbytes P e = some bytes)
    (hzero : tzero P e = some zs) (hzl : zs.length = z) (hz0 : 0 < z) (hx : zeroAV P e = some x) (hraw : ∀ z ∈ zs, z.oneCell' = true) (hl : ev F l = .raw (.int kl n)) (hc : ev F c = .raw (.int kc m)) (h0 : 0 ≤ n) (hnm : n ≤ m)
    (hb : (bytes : Int) * m ≤ 281474976710656) (h63 : m ≤ 9223372036854775807) :
    OpOk P (.makeSlice t l c) F H (.slo H.length 0 0 n.toNat) (H ++ [.vec z 0 (List.replicate n.toNat x)]) := by
  intro K C ρ oo ho hp hH hρ
  subst hH
  have h1 : ρ l = .int kl n := Vl.raw_inv (hl ▸ hρ l)
  have h2 : ρ c = .int kc m := Vl.raw_inv (hc ▸ hρ c)
  obtain ⟨ii, hii⟩ : ∃ ii, P.info? e = some ii := by
    unfold tsize at hz; cases h : P.info? e with
    | none => simp [h] at hz
    | some ii => exact ⟨ii, rfl⟩
  have hiz : ii.size = z := by simp [tsize, hii] at hz; exact hz
  have hib : ii.bytes = bytes := by simp [tbytes, hii] at hby; exact hby
  obtain ⟨zv, hzv⟩ : ∃ zv, ii.zero = some zv := by
    cases h : ii.zero with
    | none => simp [tzero, hii, h] at hzero
    | some zv => exact ⟨zv, rfl⟩
  have hzc : zv.cells = zs.toArray := by
    simp [tzero, hii, hzv] at hzero; rw [← hzero]
  have hr := run_make C.w t e ii zv (sliceElem_spec ht) hii hzv kl kc n m h0 hnm (by rw [hib]; exact hb) h63 (P := P)
  have hxc := zeroAV_cells hx hzero hraw
  have hcs : (madeCells zv.cells (m.toNat * ii.size)).size = m.toNat * z := by simp [madeCells, hiz]
  have := hp.push (C.w.alloc (.cells (madeCells zv.cells (m.toNat * ii.size)) e)) (.vec z 0 (List.replicate n.toNat x)) m.toNat rfl rfl rfl (by simp) (fun b hb => heap_alloc_old C.w _ b hb) _ rfl
    (fun ex => ⟨hz0, fun q hq => by rw [List.eq_of_mem_replicate hq, hxc]; simpa using hzl, by simp; omega, .inr ⟨C.w.heap.size, _, e, by simp, World.alloc_heap_new C.w _, by simpa using hcs, fun k y hk => by
      obtain ⟨g1, g2⟩ := flat_replicate n.toNat x zs hxc (by omega) k y hk
      rw [g1]
      have hkm : k < m.toNat * ii.size := by
        have : n.toNat * zs.length ≤ m.toNat * zs.length := Nat.mul_le_mul_right _ (by omega)
        rw [hiz, ← hzl]; omega
      have hmod : k % zs.length < zs.length := Nat.mod_lt _ (by omega)
      have : (madeCells zv.cells (m.toNat * ii.size)).getD k undef = zs.getD (k % zs.length) undef := by
        simp [madeCells, hkm, hzc, hmod, List.getD]
      rw [this]; exact .raw _⟩⟩)
  refine ⟨.value (.slice (some ⟨C.w.heap.size, 0, none⟩) n.toNat m.toNat), _, _, ?_, .inl rfl, this.1, this.2, ?_, rfl⟩
  · simp only [execOp, ho, h1, h2, Sem.run_bind, hr, Result.andThen_ok, Sem.run_pure]
  · refine .slo (by simp) (fun z' v0 es hes => by simp at hes; omega) (fun z' es hes => ?_)
    simp at hes
    obtain ⟨_, rfl⟩ := hes
    simp

end

end Go.Ab
