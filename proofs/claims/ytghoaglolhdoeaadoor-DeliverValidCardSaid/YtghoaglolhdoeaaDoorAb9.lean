/- A program logic over the model: contracts of calls, proved from the model alone, without conditions. -/
import Derived.Test.YtghoaglolhdoeaaDoorAb8
set_option linter.unusedSimpArgs false
set_option linter.unusedVariables false
namespace Go.Ab
open Go

def AV.isCell : AV → Bool
  | .raw v => v.oneCell'
  | .any | .agg _ | .tup _ => false
  | _ => true

/-- A part that is one cell, or a struct of cells. -/
def AV.isPart : AV → Bool
  | .agg cs => cs.all AV.isCell
  | a => a.isCell

theorem cell_one {C : Ctx} {x : AV} {v : Value} (h : Vl C x v) (hc : x.isCell = true) (hH : ∀ i ver j off, x = .pel i ver j off → fresh C.H x = true) (hs : ∀ i ver off len, x = .slo i ver off len → ∃ z es, C.H[i]? = some (.vec z ver es)) : v.oneCell' = true := by
  cases h with
  | any => simp [AV.isCell] at hc
  | raw => exact hc
  | pel hi hv hh =>
    obtain ⟨z, es, hes⟩ := fresh_pel (hH _ _ _ _ rfl) _ _ _ _ rfl
    obtain ⟨_, b, _, rfl⟩ := hh _ _ hes; rfl
  | slo hi hv hh =>
    obtain ⟨z, es, hes⟩ := hs _ _ _ _ rfl
    obtain ⟨_, rfl⟩ := hh _ _ hes; rfl
  | agg => simp [AV.isCell] at hc
  | tup => simp [AV.isCell] at hc
  | _ => rfl

/-- A cell that may be stored: what it names is up to date. -/
def AV.good (H : Heap) (x : AV) : Bool :=
  x.isCell && fresh H x && (match x with | .slo i ver _ _ => (match H[i]? with | some (.vec _ v _) => v == ver | _ => false) | _ => true)

theorem good_one {C : Ctx} {x : AV} {v : Value} (h : Vl C x v) (hg : x.good C.H = true) : v.oneCell' = true := by
  simp only [AV.good, Bool.and_eq_true] at hg
  refine cell_one h hg.1.1 (fun _ _ _ _ _ => hg.1.2) (fun i ver off len e => ?_)
  subst e
  have h2 := hg.2
  simp only [] at h2
  split at h2
  · rename_i z v es hes
    have : v = ver := by simpa using h2
    subst this
    exact ⟨z, es, hes⟩
  · cases h2

def AV.goodPart (H : Heap) (x : AV) : Bool :=
  match x with
  | .agg cs => cs.all (AV.good H)
  | a => a.good H

theorem part_cells {C : Ctx} {x : AV} {v : Value} (h : Vl C x v) (hg : x.goodPart C.H = true) :
    v.cells.size = x.cells.length ∧ (∀ k y, x.cells[k]? = some y → Vl C y (v.cells.getD k undef)) ∧ (∀ u ∈ v.cells.toList, u.oneCell' = true) := by
  have one : x.cells = [x] → x.good C.H = true → v.cells.size = x.cells.length ∧ (∀ k y, x.cells[k]? = some y → Vl C y (v.cells.getD k undef)) ∧ (∀ u ∈ v.cells.toList, u.oneCell' = true) := by
    intro h1 h2
    have h3 := good_one h h2
    have h4 : v.cells = #[v] := by cases v <;> simp [Value.oneCell'] at h3 <;> rfl
    rw [h1, h4]
    refine ⟨rfl, fun k y hy => ?_, fun u hu => by simp at hu; subst hu; exact h3⟩
    cases k with
    | zero => simp at hy; subst hy; simpa using h
    | succ k => simp at hy
  cases x with
  | agg cs =>
    cases h with
    | agg h1 h2 =>
      rename_i us
      refine ⟨h1, h2, fun u hu => ?_⟩
      obtain ⟨k, hk, rfl⟩ := List.mem_iff_getElem.1 hu
      have hk' : k < us.size := by simpa [Value.cells] using hk
      have hx := List.getElem?_eq_getElem (l := cs) (i := k) (by omega)
      have := h2 k _ hx
      simp only [AV.goodPart, List.all_eq_true] at hg
      have := good_one this (hg _ (List.getElem_mem _))
      simpa [hk', Value.cells] using this
  | _ => exact one rfl hg

def tzero (P : Program) (t : TypeId) : Option (List Value) := ((P.info? t).bind (·.zero)).map (·.cells.toList)

theorem tzero_run {P : Program} {t : TypeId} {zs : List Value} (h : tzero P t = some zs) (w : World) : ∃ z, (zeroValue t).run P w = .ok z w ∧ z.cells.toList = zs := by
  unfold tzero at h
  cases hi : P.info? t with
  | none => simp [hi] at h
  | some i =>
    cases hz : i.zero with
    | none => simp [hi, hz] at h
    | some z =>
      simp [hi, hz] at h
      exact ⟨z, by simp [zeroValue, typeInfo, hi, hz], h⟩

theorem cells_list {c : Array Value} {l : List Value} (h : c.toList = l) : c = l.toArray := by rw [← h]

theorem vl_raws {C : Ctx} {zs : List Value} {k : Nat} {x : AV} (h : (zs.map AV.raw)[k]? = some x) : Vl C x (zs.toArray.getD k undef) := by
  simp only [List.getElem?_map, Option.map_eq_some_iff] at h
  obtain ⟨y, hy, rfl⟩ := h
  have hl := get_lt hy
  have : zs.toArray.getD k undef = y := by simp [hy]
  rw [this]; exact .raw y

theorem ctx_w (C : Ctx) : ({ C with w := C.w } : Ctx) = C := rfl

section
variable {P : Program} {F : Frm} {H : Heap}

/-- A new variable. -/
theorem new_var {K : Kon} {C : Ctx} (hp : Hp K C) (t : TypeId) (c : Array Value) (cs : List AV) (hs : c.size = cs.length) (hx : ∀ k x, cs[k]? = some x → Vl C x (c.getD k undef)) :
    ∃ C', C'.w = { C.w with heap := C.w.heap.push (.cells c t) } ∧ Ext C C' ∧ Hp K C' ∧ Vl C' (.ptr C.H.length 0) (.pointer (some ⟨C.w.heap.size, 0, none⟩)) ∧ C'.H = C.H ++ [.var cs] := by
  have := hp.push { C.w with heap := C.w.heap.push (.cells c t) } (.var cs) 0 rfl rfl rfl (by simp) (fun b hb => by simp [Array.getElem?_push]; intro h; omega) _ rfl
    (fun e => ⟨C.w.heap.size, c, t, by simp, by simp, hs, fun k x hk => (hx k x hk).mono e⟩)
  exact ⟨_, rfl, this.1, this.2, .ptr ⟨cs, by simp⟩ (by simp), rfl⟩

theorem ok_box {t : TypeId} {x : Operand} (hg : (ev F x).goodPart H = true) : OpOk P (.box t x) F H (.ptr H.length 0) (H ++ [.var (ev F x).cells]) := by
  intro K C ρ oo ho hp hH hρ
  subst hH
  obtain ⟨h1, h2, _⟩ := part_cells (hρ x) hg
  obtain ⟨C', hw, e, hp', hv, hH'⟩ := new_var hp t (ρ x).cells (ev F x).cells h1 h2
  exact ⟨_, _, C', by rw [hw]; simp [execOp, ho, Instr.box, newVar, newRow], .inl rfl, e, hp', hv, hH'⟩

theorem ok_alloc {t : TypeId} {zs : List Value} (hz : tzero P t = some zs) : OpOk P (.alloc t) F H (.ptr H.length 0) (H ++ [.var (zs.map .raw)]) := by
  intro K C ρ oo ho hp hH hρ
  subst hH
  obtain ⟨z, h1, h2⟩ := tzero_run (P := P) hz C.w
  obtain ⟨C', hw, e, hp', hv, hH'⟩ := new_var hp t z.cells (zs.map .raw) (by rw [cells_list h2]; simp) (fun k x hx => by rw [cells_list h2]; exact vl_raws hx)
  exact ⟨_, _, C', by rw [hw]; simp [execOp, ho, Instr.alloc, newVar, newRow, h1], .inl rfl, e, hp', hv, hH'⟩

def sliceElem (P : Program) (t : TypeId) : Option TypeId := match P.underlying t with | some (.slice e) => some e | _ => none
theorem sliceElem_spec {t e : TypeId} (h : sliceElem P t = some e) : P.underlying t = some (.slice e) := by
  unfold sliceElem at h; split at h <;> simp at h; subst h; assumption

theorem cells_of_at {C : Ctx} {es : List AV} {z j : Nat} {v : AV} (hs : ∀ e ∈ es, e.cells.length = z) (hj : es[j]? = some v) :
    ∀ k x, v.cells[k]? = some x → (flat es)[j * z + k]? = some x := fun k x hx => by
  have := hs v (List.mem_of_getElem? hj)
  rw [flat_get hs hj (by have := get_lt hx; omega)]; exact hx

theorem ok_indexAddr_sl {t e : TypeId} {x i : Operand} {z : Nat} {b : Bool} {es : List AV} {k : IntKind} {j : Int} {v : AV} (ht : sliceElem P t = some e) (hz : tsize P e = some z)
    (hx : ev F x = .sl z b es) (hi : ev F i = .raw (.int k j)) (h0 : 0 ≤ j) (hv : es[j.toNat]? = some v) : OpOk P (.indexAddr t x i) F H (.rp v.cells) H := .still fun K C ρ oo ho hp hH hρ => by
  have hj : ρ i = .int k j := Vl.raw_inv (hi ▸ hρ i)
  have h := hx ▸ hρ x
  generalize hr : ρ x = r at h
  cases h with
  | sl g hz' hcap hfull hn hs ha hx' =>
    rename_i a cap
    have hjl := get_lt hv
    have hne : es ≠ [] := by intro h; subst h; simp at hv
    have ht' := sliceElem_spec ht
    cases a with
    | none => have := hn rfl; have := List.length_pos_iff.2 hne; omega
    | some ad =>
      obtain ⟨h1, h2, h3⟩ := ha ad rfl hne
      obtain ⟨bl, off, spot⟩ := ad
      simp only at h1 h2 h3
      subst h1
      have hm : j.toNat * z + z ≤ es.length * z := by rw [← Nat.succ_mul]; exact Nat.mul_le_mul_right z hjl
      refine ⟨.pointer (some ⟨bl, off + j.toNat * z, none⟩), ?_, .rp (fun k => g (j.toNat * z + k)) h2 ?_ (fun k hk => ?_) (fun k x hk => hx' _ x (cells_of_at (C := C) hs hv k x hk))⟩
      · have hlt : j < (es.length : Int) := by omega
        simp only [execOp, ho, hr, hj, Instr.indexAt, asIntOf, Sem.run_bind, Sem.run_pure, Result.andThen_ok, run_underlying ht', tsize_run hz, h0, hlt, and_self, if_true, add_none]
      · have := h3 0 (by omega)
        unfold World.cell? at this
        split at this
        · exact ⟨_, _, _, by assumption⟩
        · cases this
      · rw [Nat.add_assoc]
        have := hs v (List.mem_of_getElem? hv)
        exact h3 _ (by omega)

theorem ok_indexAddr_slo {t e : TypeId} {x i : Operand} {z n ver off len : Nat} {es : List AV} {k : IntKind} {j : Int} (ht : sliceElem P t = some e) (hz : tsize P e = some z)
    (hx : ev F x = .slo n ver off len) (hn : H[n]? = some (.vec z ver es)) (hi : ev F i = .raw (.int k j)) (h0 : 0 ≤ j) (hj : j < len) : OpOk P (.indexAddr t x i) F H (.pel n ver (off + j.toNat) 0) H := .still fun K C ρ oo ho hp hH hρ => by
  subst hH
  have hj' : ρ i = .int k j := Vl.raw_inv (hi ▸ hρ i)
  have h := hx ▸ hρ x
  generalize hr : ρ x = r at h
  cases h with
  | slo hi' hv hh =>
    obtain ⟨hl, rfl⟩ := hh _ _ hn
    have ht' := sliceElem_spec ht
    obtain ⟨g0, g1, g2, g3⟩ := hp.obj n _ hn
    rcases g3 with ⟨_, g3⟩ | ⟨b, c, tt, g4, g5, g6, g7⟩
    · omega
    refine ⟨.pointer (some ⟨b, (off + j.toNat) * z + 0, none⟩), ?_, .pel hi' hv (fun z' es' hes' => ?_)⟩
    · have hlt : j < (len : Int) := by omega
      simp only [execOp, ho, hr, hj', Instr.indexAt, asIntOf, Sem.run_bind, Sem.run_pure, Result.andThen_ok, run_underlying ht', tsize_run hz, h0, hlt, and_self, if_true, g4, Option.map_some, add_none]
      simp [Nat.add_mul]
    · rw [hn] at hes'; cases hes'
      exact ⟨by omega, b, g4, by simp⟩

/-- How long it is. -/
def lenAV (H : Heap) : AV → Option Nat
  | .sl _ _ es => some es.length
  | .slb _ n _ => some n
  | .slo i ver _ len => match H[i]? with | some (.vec _ v _) => if v = ver then some len else none | _ => none
  | .raw (.slice none 0 0) => some 0
  | .raw (.string s) => some s.size
  | .raw (.map none) => some 0
  | .mp i => match H[i]? with | some (.mapo es) => some es.length | _ => none
  | .pm es => some es.length
  | _ => none

def lenTy (P : Program) (t : TypeId) : Option Nat := match P.underlying t with | some (.slice _) => some 0 | some .string => some 1 | some (.map _ _) => some 2 | _ => none
def lenKind : AV → Nat
  | .sl .. | .slb .. | .slo .. | .raw (.slice ..) => 0
  | .raw (.string _) => 1
  | _ => 2

theorem ok_len {t : TypeId} {ty : Array TypeId} {x : Operand} {n : Nat} (hl : lenAV H (ev F x) = some n) (ht : lenTy P t = some (lenKind (ev F x))) :
    OpOk P (.call { callee := .builtin .len, args := #[x], argTypes := #[t] }) F H (.raw (.int .i64 n)) H := .still fun K C ρ oo ho hp hH hρ => by
  subst hH
  refine ⟨.int .i64 n, ?_, .raw _⟩
  have h := hρ x
  have key : ∀ u, Vl C (ev F x) u → (Builtin.len_ #[t] oo.type #[u]).run P C.w = .ok (.int .i64 n) C.w := by
    intro u hu
    generalize ev F x = av at hu hl ht
    have tS : lenKind av = 0 → ∃ e, P.underlying t = some (.slice e) := fun h0 => by
      rw [h0] at ht; unfold lenTy at ht; split at ht <;> simp at ht; exact ⟨_, by assumption⟩
    have tM : lenKind av = 2 → ∃ e e', P.underlying t = some (.map e e') := fun h0 => by
      rw [h0] at ht; unfold lenTy at ht; split at ht <;> simp at ht; exact ⟨_, _, by assumption⟩
    have tT : lenKind av = 1 → P.underlying t = some .string := fun h0 => by
      rw [h0] at ht; unfold lenTy at ht; split at ht <;> simp at ht; assumption
    cases hu with
    | raw =>
      cases u with
      | slice a l c =>
        cases a with
        | some a => simp [lenAV] at hl
        | none =>
          obtain ⟨e, he⟩ := tS rfl
          cases l with
          | succ l => simp [lenAV] at hl
          | zero => cases c with
            | succ c => simp [lenAV] at hl
            | zero => simp [lenAV] at hl; subst hl; simp [Builtin.len_, run_underlying he, goInt]
      | string s => simp [lenAV] at hl; subst hl; simp [Builtin.len_, run_underlying (tT rfl), goInt]
      | map r =>
        cases r with
        | some r => simp [lenAV] at hl
        | none => obtain ⟨e, e', he⟩ := tM rfl; simp [lenAV] at hl; subst hl; simp [Builtin.len_, run_underlying he, goInt]
      | _ => simp [lenAV] at hl
    | sl g hz' hcap hfull hn hs ha hx' => obtain ⟨e, he⟩ := tS rfl; simp [lenAV] at hl; subst hl; simp [Builtin.len_, run_underlying he, goInt]
    | slb g hz' hle hcap hn hs ha hx' => obtain ⟨e, he⟩ := tS rfl; simp [lenAV] at hl; subst hl; simp [Builtin.len_, run_underlying he, goInt]
    | slo hi hv hh =>
      obtain ⟨e, he⟩ := tS rfl
      simp only [lenAV] at hl
      split at hl
      · rename_i z v es hes
        split at hl <;> simp at hl
        rename_i hver; subst hver; subst hl
        obtain ⟨_, rfl⟩ := hh _ _ hes
        simp [Builtin.len_, run_underlying he, goInt]
      · cases hl
    | mp hh hb =>
      obtain ⟨e, e', he⟩ := tM rfl
      obtain ⟨es, hes⟩ := hh
      simp [lenAV, hes] at hl; subst hl
      obtain ⟨b, ents, clock, g1, g2, g3, _⟩ := hp.obj _ _ hes
      rw [hb] at g1; cases g1
      simp [Builtin.len_, run_underlying he, goInt, getObj, Sem.run, g2, g3]
    | pm hb hm hs hk hv =>
      obtain ⟨e, e', he⟩ := tM rfl
      simp [lenAV] at hl; subst hl
      simp [Builtin.len_, run_underlying he, goInt, getObj, Sem.run, hm, hs]
    | _ => simp [lenAV] at hl
  simp only [execOp, ho, resolve, Sem.run_bind, Sem.run_pure, Result.andThen_ok, invoke, builtin]
  simp only [List.map_toArray, List.map_cons, List.map_nil]
  rw [key _ h]; rfl

end

end Go.Ab
