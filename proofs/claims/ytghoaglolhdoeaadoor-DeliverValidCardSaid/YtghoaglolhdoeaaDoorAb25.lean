/- A program logic over the model: contracts of calls, proved from the model alone, without conditions. -/
import Derived.Test.YtghoaglolhdoeaaDoorAb24
set_option linter.unusedSimpArgs false
set_option linter.unusedVariables false
namespace Go.Ab
open Go

section
variable {P : Program} {F : Frm} {H : Heap}
/-- append behind a part of an own row, where there is room within the row. -/
theorem append_cut {K : Kon} {C : Ctx} (hp : Hp K C) {t ty e : TypeId} {n ver z len : Nat} {es new : List AV} (ht : sliceElem P t = some e) (hz : tsize P e = some z)
    {vs0 vx : Value} {ax : AV} (hss : Vl C (.slo n ver 0 len) vs0) (hx : Vl C ax vx) (hn : C.H[n]? = some (.vec z ver es)) (hnew : srcElems C.H z ax = some new) (hg : new.all (AV.goodPart C.H) = true)
    (hroom0 : len + new.length ≤ es.length) :
    ∃ u C', (Builtin.append_ #[t, t] ty #[vs0, vx]).run P C.w = .ok u C'.w ∧ Ext C C' ∧ Hp K C' ∧ Vl C' (.slo n (ver + 1) 0 (len + new.length)) u ∧ C'.H = C.H.set n (.vec z (ver + 1) (es.take len ++ new)) := by
  obtain ⟨g0, g1, g2, g3⟩ := hp.obj n _ hn
  have hnl := get_lt hn
  obtain ⟨ad, cap, rfl, hnone, hzn, vs, hvl, hvx, hmem⟩ := srcElems_ok hp g0 hx hnew
  have ht' := sliceElem_spec ht
  obtain ⟨ii, hii⟩ : ∃ ii, P.info? e = some ii := by
    unfold tsize at hz; cases h : P.info? e with
    | none => simp [h] at hz
    | some ii => exact ⟨ii, rfl⟩
  have hiz : ii.size = z := by simp [tsize, hii] at hz; exact hz
  have hgood := good_src hg (by rw [flat_length hzn]; exact hvl) hvx
  have htl : (es.take len).length = len := by simp; omega
  cases hss with
  | slo hi hv hh =>
    obtain ⟨_, hhv⟩ := hh _ _ hn
    simp only [Nat.zero_mul, Nat.sub_zero] at hhv
    subst hhv
    have g1t : ∀ q ∈ es.take len, q.cells.length = z := fun q hq => g1 q (List.mem_of_mem_take hq)
    have hsz : ∀ q ∈ es.take len ++ new, q.cells.length = z := fun q hq => by
      rcases List.mem_append.1 hq with h | h
      · exact g1t q h
      · exact hzn q h
    have fin : ∀ (w' : World), w'.os = C.w.os → w'.tape = C.w.tape → w'.output = C.w.output → C.w.heap.size ≤ w'.heap.size →
        (∀ b, b < C.w.heap.size → C.β n ≠ some b → w'.heap[b]? = C.w.heap[b]?) →
        ((C.β n = none ∧ C.κ n = 0) ∨ ∃ b c tt, C.β n = some b ∧ w'.heap[b]? = some (.cells c tt (0, 0)) ∧ c.size = C.κ n * z ∧ ∀ k y, (flat (es.take len ++ new))[k]? = some y → Vl C y (c.getD k undef)) →
        ∃ C', C'.w = w' ∧ Ext C C' ∧ Hp K C' ∧ Vl C' (.slo n (ver + 1) 0 (len + new.length)) (.slice ((C.β n).map fun b => ⟨b, 0, none⟩) (len + new.length) (C.κ n)) ∧ C'.H = C.H.set n (.vec z (ver + 1) (es.take len ++ new)) := by
      intro w' h1 h2 h3 h4 h5 h8
      have := hp.upd w' n hnl (.vec z (ver + 1) (es.take len ++ new)) (C.β n) (C.κ n) h1 h2 h3 h4 h5 (.inl rfl) _ rfl (by rw [hn]; exact ⟨rfl, by omega, fun h => by omega⟩) (fun ex => by
        refine ⟨g0, hsz, by rw [List.length_append, htl]; simp; omega, ?_⟩
        rcases h8 with ⟨h9, h10⟩ | ⟨b, c, tt, h9, h10, h11, h12⟩
        · exact .inl ⟨by simpa using h9, by simpa using h10⟩
        · exact .inr ⟨b, c, tt, by simpa using h9, h10, by simpa using h11, fun k y hy => (h12 k y hy).mono ex⟩)
      refine ⟨_, rfl, this.1, this.2, .slo (by simpa using hnl) (fun z' v0 es' hes' => ?_) (fun z' es' hes' => ?_), rfl⟩
      · simp [hnl] at hes'; omega
      · simp [hnl] at hes'
        obtain ⟨_, rfl⟩ := hes'
        simp
        omega
    cases ad with
    | none =>
      obtain ⟨rfl, rfl⟩ := hnone rfl
      have := append_none (P := P) t ty e ii ht' hii ((C.β n).map fun b => ⟨b, 0, none⟩) len (C.κ n) (by omega) C.w
      obtain ⟨C', e1, e2, e3, e4, e5⟩ := fin C.w rfl rfl rfl (Nat.le_refl _) (fun _ _ _ => rfl) (by
        rcases g3 with g3 | ⟨b, c, tt, g4, g5, g6, g7⟩
        · exact .inl g3
        · refine .inr ⟨b, c, tt, g4, g5, g6, fun k y hy => ?_⟩
          simp only [List.append_nil] at hy
          rw [flat_take g1] at hy
          have hk := get_lt hy
          have hk1 : k < len * z := by simp only [List.length_take] at hk; omega
          rw [List.getElem?_take_of_lt hk1] at hy
          exact g7 k y hy)
      refine ⟨_, C', ?_, e2, e3, e4, e5⟩
      simp only [List.length_nil, Nat.add_zero]
      rw [e1]; exact this
    | some ad =>
      rcases g3 with ⟨g3, g4⟩ | ⟨b, c, tt, g4, g5, g6, g7⟩
      · have h0 : es.length = 0 := by omega
        have h1 : len = 0 := by omega
        have h2 : new = [] := List.length_eq_zero_iff.1 (by omega)
        subst h1 h2
        obtain ⟨C', e1, e2, e3, e4, e5⟩ := fin C.w rfl rfl rfl (Nat.le_refl _) (fun _ _ _ => rfl) (.inl ⟨g3, g4⟩)
        refine ⟨_, C', ?_, e2, e3, e4, e5⟩
        rw [g3, g4, e1]
        simp [Builtin.append_, run_underlying ht', sizeOf, typeInfo, hii, Builtin.lenOf, Builtin.firstCells, loadCells, loadCellsFrom]
      · have hroom : len + new.length ≤ C.κ n := by omega
        have hfit : len * ii.size + vs.length ≤ c.size := by rw [hvl, hiz, g6, ← Nat.add_mul]; exact Nat.mul_le_mul_right _ hroom
        have hr := append_room (P := P) t ty e ii ht' hii C.w tt b len (C.κ n) c g5 ad new.length cap vs (by rw [hvl, hiz]) (hmem ad rfl) hgood hroom hfit
        rw [hiz] at hr hfit
        have p1 : (splice c.toList (len * z) vs).toArray.size = C.κ n * z := by
          rw [List.size_toArray, splice_length c.toList (len * z) vs (by simpa using hfit)]; simpa using g6
        have p2 : ∀ k y, (flat (es.take len ++ new))[k]? = some y → Vl C y ((splice c.toList (len * z) vs).toArray.getD k undef) := fun k y hy => by
          have e0 : (splice c.toList (len * z) vs).toArray.getD k undef = ((splice c.toList (len * z) vs)[k]?).getD undef := by simp
          rw [e0, splice_get c.toList (len * z) vs (by simpa using hfit)]
          rw [flat_append] at hy
          have hfl := flat_length g1t
          rw [htl] at hfl
          rcases Nat.lt_or_ge k (len * z) with hk | hk
          · rw [if_neg (by omega)]
            rw [List.getElem?_append_left (by omega), flat_take g1, List.getElem?_take_of_lt hk] at hy
            simpa using g7 k y hy
          · rw [List.getElem?_append_right (by omega), hfl] at hy
            have hk2 := get_lt hy
            rw [flat_length hzn] at hk2
            rw [if_pos ⟨hk, by omega⟩]
            simpa [List.getD] using hvx _ y hy
        obtain ⟨C', e1, e2, e3, e4, e5⟩ := fin (C.w.setRow b (splice c.toList (len * z) vs).toArray) rfl rfl rfl (by simp [World.setRow])
          (fun b' _ hne => setRow_other C.w b b' _ (fun hh => hne (by rw [g4, hh]))) (.inr ⟨b, _, tt, g4, setRow_heap' g5, p1, p2⟩)
        refine ⟨_, C', ?_, e2, e3, e4, e5⟩
        rw [e1, g4]
        simp only [Option.map_some]
        rw [hr]

theorem o_apc {e : TypeId} {t : TypeId} {x y : Operand} {v : AV} {q ver len z bytes ver' len' : Nat} {zs : List Value} {x0 : AV} {es new out : List AV} {H' : Heap} (he : ElemOk P t e z zs x0 bytes) (hs : evx F x = some (.slo q ver 0 len)) (hH : H[q]? = some (.vec z ver es)) (hy : evx F y = some v) (hnew : srcElems H z v = some new)
    (hg : new.all (AV.goodPart H) = true) (hb : len + new.length ≤ es.length) (hver : ver + 1 = ver') (hlen' : len + new.length = len') (hout : es.take len ++ new = out) (hH' : setX H q (.vec z ver' out) = some H') :
    OpOk P (.call { callee := .builtin .append, args := #[x, y], argTypes := #[t, t] }) F H (.slo q ver' 0 len') H' := by
  subst hver hlen' hout
  intro K C ρ oo ho hp hH0 hρ
  subst hH0
  obtain ⟨u, C', h1, h2, h3, h4, h5⟩ := append_cut (P := P) hp (ty := oo.type) he.ht he.hz (evx_eq hs ▸ hρ x) (evx_eq hy ▸ hρ y) hH hnew hg hb
  have := (setX_eq _ _ _ _ hH').2
  subst this
  exact ⟨_, _, C', by rw [append_exec ho, h1]; rfl, .inl rfl, h2, h3, h4, h5⟩

theorem o_slh {e t : TypeId} {x h : Operand} {k : IntKind} {z n ver len m : Nat} {r : Int} {es : List AV} (ht : sliceElem P t = some e) (hz : tsize P e = some z) (hx : evx F x = some (.slo n ver 0 len)) (hn : H[n]? = some (.vec z ver es))
    (hh : evx F h = some (.raw (.int k r))) (hm : r = (m : Int)) (h3 : m ≤ es.length) : OpOk P (.slice t x none (some h) none) F H (.slo n ver 0 m) H := by
  subst hm
  have := ok_slice_slo (P := P) (F := F) (H := H) (t := t) (hi := some h) (rh := some (m : Int)) ht hz (evx_eq hx) hn (by simp only [bnd, evx_eq hh]) (by simp) (by simpa using h3)
  simpa using this

/-- What stands behind a place of an own row. -/
def tailAV (q ver l len z : Nat) : AV := if l < len then .slo q ver l (len - l) else .sl z false []
theorem o_slt {e t : TypeId} {x lo : Operand} {k : IntKind} {z n ver len l : Nat} {r : Int} {es : List AV} (ht : sliceElem P t = some e) (hz : tsize P e = some z) (hz0 : 0 < z) (hx : evx F x = some (.slo n ver 0 len)) (hn : H[n]? = some (.vec z ver es))
    (hh : evx F lo = some (.raw (.int k r))) (hm : r = (l : Int)) (h2 : l ≤ len) (h3 : len ≤ es.length) : OpOk P (.slice t x (some lo) none none) F H (tailAV n ver l len z) H := by
  subst hm
  unfold tailAV
  split
  · rename_i hlt
    have := ok_slice_slo_lo (P := P) (F := F) (H := H) (t := t) (hi := none) (rh := none) ht hz (evx_eq hx) hn (evx_eq hh) (by rfl) (by omega) (by simpa using hlt) (by simpa using h3)
    simpa using this
  · have hl : l = len := by omega
    subst hl
    refine .still fun K C ρ oo ho hp hH hρ => ?_
    subst hH
    have hv := evx_eq hx ▸ hρ x
    generalize hr : ρ x = r at hv
    cases hv with
    | slo hi' hv hhv =>
      obtain ⟨hl, rfl⟩ := hhv _ _ hn
      obtain ⟨g0, g1, g2, g3⟩ := hp.obj n _ hn
      have hb := sliceBounds_run (P := P) hρ (lo := some lo) (hi := none) (rl := some (l : Int)) (rh := none) (by simp only [bnd, evx_eq hh]) rfl l (C.κ n) (by omega) (fun q hq => by simp at hq) (by simp) C.w
      have hrun := sliceAt_run (P := P) (sliceElem_spec ht) hz ((C.β n).map fun b => ⟨b, 0 * z, none⟩) l (C.κ n - 0) _ _ _ _ _ C.w (by simpa using hb)
      simp only [Option.map_some, Option.map_none, Option.getD_none, Option.getD_some, Int.toNat_natCast, Nat.sub_zero, Nat.sub_self] at hrun
      refine ⟨_, (by simp only [execOp, ho, hr, Sem.run_bind, Option.map_some, Option.map_none, Nat.sub_zero, hrun, Result.andThen_ok]; rfl), ?_⟩
      exact .sl (es := []) (fun _ => undef) hz0 (by simp) (fun h => by cases h) (fun h => by
        rcases g3 with ⟨g3, g4⟩ | ⟨b, c, t, g4, _⟩
        · omega
        · split at h
          · rw [g4] at h; cases h
          · rw [g4] at h; cases h) (by simp) (fun x _ hne => absurd rfl hne) (by simp [flat])
theorem srcTail {H : Heap} {q ver l len z : Nat} {es r : List AV} (hn : H[q]? = some (.vec z ver es)) (hl : len = es.length) (h2 : l ≤ len) (hr : es.drop l = r) : srcElems H z (tailAV q ver l len z) = some r := by
  subst hl hr
  unfold tailAV
  split
  · simp only [srcElems, hn]
    rw [if_pos (by simp)]
    rw [List.take_of_length_le (by simp)]
  · rw [List.drop_of_length_le (by omega)]; simp [srcElems]

/-- A place for a row to come. -/
theorem w_ph {E : Env} {c : Code} {Q : Exit → Frm → Heap → Prop} {H' : Heap} (z : Nat) (hz : 0 < z) (hH : snocX H (.vec z 0 []) = some H') (h : AWp E c Q F H') : AWp E c Q F H := by
  intro K C a h1 h2 h3 h4 h5
  subst h5
  obtain ⟨C', e1, e2, e3, e4, e5⟩ := push_nil h4.hp hz
  rw [← e1]
  exact h K C' a h1 h2 h3 { hp := e3, size := h4.size, fr := fun k x hx => (h4.fr k x hx).mono e2, marks := h4.marks.mono e2 } (by rw [e5, snocX_eq _ _ _ hH])

/-- A literal into its place. -/
theorem o_bsD {t e : TypeId} {len z bytes q : Nat} {zs : List Value} {x : AV} {parts : Array (Nat × Operand)} {ps : List (Nat × AV)} {rs es es0 : List AV} (he : ElemOk P t e z zs x bytes) (hb : len * z ≤ 16777216) (hps : partX F parts.toList = some ps) (hr : repX x len = some rs) (hl : litX H z rs ps = some es)
    (hq : H[q]? = some (.vec z 0 es0)) : OpOk P (.buildSlice t len parts) F H (.slo q 1 0 len) (H.set q (.vec z 1 es)) := by
  intro K C ρ oo ho hp hH hρ
  subst hH
  have hql := get_lt hq
  have hxc := zeroAV_cells he.hx he.hzero he.hraw
  have hlit : litElems P C.H e z (List.replicate len x) (parts.toList.map fun p => (p.1, ev F p.2)) = some es := by rw [partX_eq _ _ hps, repX_eq _ _ _ hr]; exact litX_eq _ _ _ hl
  obtain ⟨c, e1, e2, e3, e4⟩ := litElems_ok (P := P) hρ parts.toList (List.replicate len x) _ es (fun q hq => by rw [List.eq_of_mem_replicate hq, hxc]; simpa using he.hzl) (cellsOk_zero hxc he.hzl he.hz0) hlit
  simp at e4
  have hrun := buildSlice_run (P := P) (parts := parts.map fun (i, x) => (i, ρ x)) (len := len) (sliceElem_spec he.ht) he.hz he.hzero hb (c := c) (by simpa using e1) C.w
  have := hp.upd (C.w.alloc (.cells c e)) q hql (.vec z 1 es) (some C.w.heap.size) len rfl rfl rfl (by simp) (fun b hb _ => heap_alloc_old C.w _ b hb) (.inr ⟨_, rfl, Nat.le_refl _, by simp⟩) _ rfl (by rw [hq]; exact ⟨rfl, by omega, fun h => by omega⟩)
    (fun ex => ⟨he.hz0, e3, by simp [e4], .inr ⟨C.w.heap.size, c, e, by simp, World.alloc_heap_new C.w _, by rw [e2.1, flat_length e3]; simp [e4], fun k y hy => (e2.2 k y hy).mono ex⟩⟩)
  refine ⟨.value (.slice (some ⟨C.w.heap.size, 0, none⟩) len len), _, _, by simp only [execOp, ho, Sem.run_bind, hrun, Result.andThen_ok, Sem.run_pure], .inl rfl, this.1, this.2, ?_, rfl⟩
  refine .slo (by simpa using hql) (fun z' v0 es' hes => ?_) (fun z' es' hes => ?_)
  · simp [hql] at hes; omega
  · simp [hql] at hes
    obtain ⟨_, rfl⟩ := hes
    simp [e4]
end
end Go.Ab
