/- A program logic over the model: contracts of calls, proved from the model alone, without conditions. -/
import Derived.Test.YtghoaglolhdoeaaDoorAb10
set_option linter.unusedSimpArgs false
set_option linter.unusedVariables false
namespace Go.Ab
open Go

/-- The elements that an operand of append has. -/
def srcElems (H : Heap) (z : Nat) : AV → Option (List AV)
  | .sl z' _ es => if z' = z then some es else none
  | .slo i ver off len => match H[i]? with
    | some (.vec z' v es) => if v = ver ∧ z' = z then some ((es.drop off).take len) else none
    | _ => none
  | .raw (.slice none 0 0) => some []
  | _ => none

theorem flat_take {z : Nat} : ∀ {es : List AV}, (∀ e ∈ es, e.cells.length = z) → ∀ n, flat (es.take n) = (flat es).take (n * z)
  | [], _, n => by simp [flat]
  | x :: es, hz, 0 => by simp [flat]
  | x :: es, hz, n + 1 => by
    have := flat_take (es := es) (fun y hy => hz y (by simp [hy])) n
    have hx := hz x (by simp)
    simp only [List.take_succ_cons, flat, List.flatMap_cons] at this ⊢
    rw [this, Nat.succ_mul, List.take_append, hx, show n * z + z - z = n * z by omega, List.take_of_length_le (l := x.cells) (by omega)]

theorem flat_append (a b : List AV) : flat (a ++ b) = flat a ++ flat b := by simp [flat]

/-- Where they lie. -/
theorem srcElems_ok {K : Kon} {C : Ctx} (hp : Hp K C) {z : Nat} (hz0 : 0 < z) {a : AV} {v : Value} (hv : Vl C a v) {es : List AV} (h : srcElems C.H z a = some es) :
    ∃ ad cap, v = .slice ad es.length cap ∧ (ad = none → es = [] ∧ cap = 0) ∧ (∀ e ∈ es, e.cells.length = z) ∧
      ∃ vs : List Value, vs.length = es.length * z ∧ (∀ k x, (flat es)[k]? = some x → Vl C x (vs.getD k undef)) ∧ (∀ x, ad = some x → ∀ k u, vs[k]? = some u → C.w.cell? (x.add k) = some u) := by
  cases hv with
  | sl g hz hcap hfull hn hs ha hx =>
    rename_i z' full es' a cap
    simp only [srcElems] at h
    split at h <;> simp at h
    rename_i hzz
    subst hzz; subst h
    refine ⟨a, cap, rfl, fun h0 => ?_, hs, (List.range (es'.length * z')).map g, by simp, fun k x hk => ?_, fun x hxa k u hk => ?_⟩
    · have := hn h0
      exact ⟨List.length_eq_zero_iff.1 (by omega), this⟩
    · have hl := get_lt hk
      rw [flat_length hs] at hl
      have : ((List.range (es'.length * z')).map g).getD k undef = g k := by simp [List.getD, hl]
      rw [this]; exact hx k x hk
    · have hl := get_lt hk
      simp at hl
      have hne : es' ≠ [] := by intro h0; subst h0; simp at hl
      obtain ⟨h1, h2, h3⟩ := ha x hxa hne
      obtain ⟨b, o, sp⟩ := x
      simp only at h1; subst h1
      rw [add_none]
      simp [hl] at hk
      rw [← hk]; exact h3 k hl
  | slo hi hv hh =>
    rename_i i ver off len
    simp only [srcElems] at h
    split at h
    · rename_i z' vv es' hes
      split at h <;> simp at h
      rename_i hc
      obtain ⟨rfl, rfl⟩ := hc
      subst h
      obtain ⟨hl, rfl⟩ := hh _ _ hes
      obtain ⟨g0, g1, g2, g3⟩ := hp.obj i _ hes
      have hlen : ((es'.drop off).take len).length = len := by simp; omega
      have hzd : ∀ e ∈ es'.drop off, e.cells.length = z' := fun e he => g1 e (List.mem_of_mem_drop he)
      have hz' : ∀ e ∈ (es'.drop off).take len, e.cells.length = z' := fun e he => hzd e (List.mem_of_mem_take he)
      rcases g3 with ⟨g3, g4⟩ | ⟨b, c, t, g4, g5, g6, g7⟩
      · have h0 : es' = [] := List.length_eq_zero_iff.1 (by omega)
        subst h0
        have h01 : len = 0 := by simp at hl; omega
        subst h01
        rw [g3, g4]
        exact ⟨none, 0, by simp, fun _ => ⟨by simp, rfl⟩, by simp, [], by simp, fun k x hk => by simp [flat] at hk, fun x hx => by cases hx⟩
      · have hcap : off * z' + len * z' ≤ c.size := by rw [g6, ← Nat.add_mul]; exact Nat.mul_le_mul_right z' (by omega)
        refine ⟨some ⟨b, off * z', none⟩, C.κ i - off, (by rw [g4, hlen]; rfl), (fun h => by cases h), hz', (c.toList.drop (off * z')).take (len * z'), (by rw [hlen]; simp; omega), fun k x hk => ?_, fun x hxa k u hk => ?_⟩
        · rw [flat_take hzd, flat_drop g1] at hk
          have hkl : k < len * z' := by have := get_lt hk; simp at this; omega
          rw [List.getElem?_take_of_lt hkl, List.getElem?_drop] at hk
          have := g7 _ x hk
          have e : ((c.toList.drop (off * z')).take (len * z')).getD k undef = c.getD (off * z' + k) undef := by
            simp [List.getD, List.getElem?_take_of_lt hkl]
          rw [e]; exact this
        · cases hxa
          rw [add_none]
          have hkl : k < len * z' := by have := get_lt hk; simp at this; omega
          rw [List.getElem?_take_of_lt hkl, List.getElem?_drop] at hk
          have := cell_cells g5 (o := off * z' + k) (by omega)
          rw [this]
          simp at hk
          simp [hk]
    · cases h
  | raw u =>
    cases v with
    | slice a l c =>
      cases a with
      | some a => simp [srcElems] at h
      | none => cases l with
        | succ l => simp [srcElems] at h
        | zero => cases c with
          | succ c => simp [srcElems] at h
          | zero =>
            simp [srcElems] at h
            subst h
            exact ⟨none, 0, rfl, fun _ => ⟨rfl, rfl⟩, by simp, [], by simp, fun k x hk => by simp [flat] at hk, fun x hx => by cases hx⟩
    | _ => simp [srcElems] at h
  | _ => simp [srcElems] at h

section
variable {P : Program} {F : Frm} {H : Heap}

def tbytes (P : Program) (t : TypeId) : Option Nat := (P.info? t).map (·.bytes)

theorem good_src {C : Ctx} {es : List AV} {vs : List Value} (hg : es.all (AV.goodPart C.H) = true) (hl : vs.length = (flat es).length) (hv : ∀ k x, (flat es)[k]? = some x → Vl C x (vs.getD k undef)) :
    ∀ u ∈ vs, u.oneCell' = true := by
  intro u hu
  obtain ⟨k, hk, rfl⟩ := List.mem_iff_getElem.1 hu
  have hx := List.getElem?_eq_getElem (l := flat es) (i := k) (by omega)
  have h1 := hv k _ hx
  have h2 : vs.getD k undef = vs[k] := by simp [List.getD, hk]
  rw [h2] at h1
  refine good_one h1 ?_
  have hm := List.getElem_mem (l := flat es) (n := k) (by omega)
  simp only [flat, List.mem_flatMap] at hm
  obtain ⟨e, he, hme⟩ := hm
  have hge := List.all_eq_true.1 hg e he
  cases e with
  | agg cs => simp only [AV.goodPart, List.all_eq_true] at hge; exact hge _ hme
  | _ => simp only [AV.cells, List.mem_singleton] at hme; exact (congrArg (AV.good C.H) hme).trans hge

theorem append_room (t ty e : TypeId) (i : TypeInfo) (ht : P.underlying t = some (.slice e)) (hi : P.info? e = some i) (w : World) (tt : TypeId)
    (g sLen sCap : Nat) (cur : Array Value) (hg : w.heap[g]? = some (.cells cur tt (0, 0)))
    (a : Addr) (m c : Nat) (news : List Value) (hl : news.length = m * i.size) (hnews : ∀ j u, news[j]? = some u → w.cell? (a.add j) = some u) (h1 : ∀ u ∈ news, u.oneCell' = true)
    (hroom : sLen + m ≤ sCap) (hfit : sLen * i.size + news.length ≤ cur.size) :
    (Builtin.append_ #[t, t] ty #[.slice (some ⟨g, 0, none⟩) sLen sCap, .slice (some a) m c]).run P w =
      .ok (.slice (some ⟨g, 0, none⟩) (sLen + m) sCap) (w.setRow g (splice cur.toList (sLen * i.size) news).toArray) := by
  have hf := run_firstCells_some (P := P) w i.size m a m c news hl hnews
  have hst := run_storeCells_at P g (sLen * i.size) tt news 0 cur w hg (by simpa using hfit) h1
  simp only [Nat.add_zero] at hst
  have hadd : (⟨g, 0, none⟩ : Addr).add (sLen * i.size) = ⟨g, sLen * i.size, none⟩ := by rw [add_none]; simp
  simp [Builtin.append_, run_underlying ht, sizeOf, typeInfo, hi, Builtin.lenOf, hroom, hf, hadd, hst, splice]

theorem append_none (t ty e : TypeId) (i : TypeInfo) (ht : P.underlying t = some (.slice e)) (hi : P.info? e = some i) (a : Option Addr) (n c : Nat) (hnc : n ≤ c) (w : World) :
    (Builtin.append_ #[t, t] ty #[.slice a n c, .slice none 0 0]).run P w = .ok (.slice a n c) w := by
  cases a with
  | none => simp [Builtin.append_, run_underlying ht, sizeOf, typeInfo, hi, Builtin.lenOf, Builtin.firstCells, hnc]
  | some a => simp [Builtin.append_, run_underlying ht, sizeOf, typeInfo, hi, Builtin.lenOf, Builtin.firstCells, hnc, storeCells]

/-- append at the end of an own row, on values. -/
theorem append_core {K : Kon} {C : Ctx} (hp : Hp K C) {t ty e : TypeId} {n ver z bytes : Nat} {es new : List AV} (ht : sliceElem P t = some e) (hz : tsize P e = some z) (hby : tbytes P e = some bytes) {zs : List Value} (hzero : tzero P e = some zs) (hzl : zs.length = z)
    {vs0 vx : Value} {ax : AV} (hss : Vl C (.slo n ver 0 es.length) vs0) (hx : Vl C ax vx) (hn : C.H[n]? = some (.vec z ver es)) (hnew : srcElems C.H z ax = some new) (hg : new.all (AV.goodPart C.H) = true)
    (hb : (es.length + new.length) * bytes ≤ 140737488355328) (h63 : es.length + new.length ≤ 9223372036854775807) :
    ∃ u C', (Builtin.append_ #[t, t] ty #[vs0, vx]).run P C.w = .ok u C'.w ∧ Ext C C' ∧ Hp K C' ∧ Vl C' (.slo n (ver + 1) 0 (es.length + new.length)) u ∧ C'.H = C.H.set n (.vec z (ver + 1) (es ++ new)) := by
  obtain ⟨g0, g1, g2, g3⟩ := hp.obj n _ hn
  have hnl := get_lt hn
  obtain ⟨ad, cap, rfl, hnone, hzn, vs, hvl, hvx, hmem⟩ := srcElems_ok hp g0 hx hnew
  have ht' := sliceElem_spec ht
  obtain ⟨ii, hii⟩ : ∃ ii, P.info? e = some ii := by
    unfold tsize at hz; cases h : P.info? e with
    | none => simp [h] at hz
    | some ii => exact ⟨ii, rfl⟩
  have hiz : ii.size = z := by simp [tsize, hii] at hz; exact hz
  have hib : ii.bytes = bytes := by simp [tbytes, hii] at hby; exact hby
  obtain ⟨zv, hzv⟩ : ∃ zv, ii.zero = some zv := by
    cases h : ii.zero with
    | none => simp [tzero, hii, h] at hzero
    | some zv => exact ⟨zv, rfl⟩
  have hzc : zv.cells.size = z := by
    simp [tzero, hii, hzv] at hzero
    rw [← hzl, ← hzero]; simp
  have hgood := good_src hg (by rw [flat_length hzn]; exact hvl) hvx
  cases hss with
  | slo hi hv hh =>
    obtain ⟨_, hhv⟩ := hh _ _ hn
    simp only [Nat.zero_mul, Nat.sub_zero] at hhv
    subst hhv
    have hsz : ∀ q ∈ es ++ new, q.cells.length = z := fun q hq => by
      rcases List.mem_append.1 hq with h | h
      · exact g1 q h
      · exact hzn q h
    -- the object's upkeep
    have fin : ∀ (w' : World) (b' : Option Nat) (cap' : Nat), w'.os = C.w.os → w'.tape = C.w.tape → w'.output = C.w.output → C.w.heap.size ≤ w'.heap.size →
        (∀ b, b < C.w.heap.size → C.β n ≠ some b → w'.heap[b]? = C.w.heap[b]?) → (b' = C.β n ∨ ∃ b, b' = some b ∧ C.w.heap.size ≤ b ∧ b < w'.heap.size) → es.length + new.length ≤ cap' →
        ((b' = none ∧ cap' = 0) ∨ ∃ b c tt, b' = some b ∧ w'.heap[b]? = some (.cells c tt (0, 0)) ∧ c.size = cap' * z ∧ ∀ k y, (flat (es ++ new))[k]? = some y → Vl C y (c.getD k undef)) →
        ∃ C', C'.w = w' ∧ Ext C C' ∧ Hp K C' ∧ Vl C' (.slo n (ver + 1) 0 (es.length + new.length)) (.slice (b'.map fun b => ⟨b, 0, none⟩) (es.length + new.length) cap') ∧ C'.H = C.H.set n (.vec z (ver + 1) (es ++ new)) := by
      intro w' b' cap' h1 h2 h3 h4 h5 h6 h7 h8
      have := hp.upd w' n hnl (.vec z (ver + 1) (es ++ new)) b' cap' h1 h2 h3 h4 h5 h6 _ rfl (by rw [hn]; exact ⟨rfl, by omega, fun h => by omega⟩) (fun ex => by
        refine ⟨g0, hsz, by simpa using h7, ?_⟩
        rcases h8 with ⟨h9, h10⟩ | ⟨b, c, tt, h9, h10, h11, h12⟩
        · exact .inl ⟨by simpa using h9, by simpa using h10⟩
        · exact .inr ⟨b, c, tt, by simpa using h9, h10, by simpa using h11, fun k y hy => (h12 k y hy).mono ex⟩)
      refine ⟨_, rfl, this.1, this.2, .slo (by simpa using hnl) (fun z' v0 es' hes' => ?_) (fun z' es' hes' => ?_), rfl⟩
      · simp [hnl] at hes'; omega
      · simp [hnl] at hes'
        obtain ⟨_, rfl⟩ := hes'
        simp
    cases ad with
    | none =>
      obtain ⟨rfl, rfl⟩ := hnone rfl
      have := append_none (P := P) t ty e ii ht' hii ((C.β n).map fun b => ⟨b, 0, none⟩) es.length (C.κ n) g2 C.w
      obtain ⟨C', e1, e2, e3, e4, e5⟩ := fin C.w (C.β n) (C.κ n) rfl rfl rfl (Nat.le_refl _) (fun _ _ _ => rfl) (.inl rfl) (by simpa using g2) (by simpa using g3)
      refine ⟨_, C', ?_, e2, e3, e4, e5⟩
      simp only [List.length_nil, Nat.add_zero]
      rw [this, e1]
    | some ad =>
      rcases g3 with ⟨g3, g4⟩ | ⟨b, c, tt, g4, g5, g6, g7⟩
      · -- no row yet
        have h0 : es = [] := List.length_eq_zero_iff.1 (by omega)
        subst h0
        by_cases hm : new.length = 0
        · have h0 : new = [] := List.length_eq_zero_iff.1 hm
          subst h0
          obtain ⟨C', e1, e2, e3, e4, e5⟩ := fin C.w (C.β n) (C.κ n) rfl rfl rfl (Nat.le_refl _) (fun _ _ _ => rfl) (.inl rfl) (by simp) (.inl ⟨g3, g4⟩)
          refine ⟨_, C', ?_, e2, e3, e4, e5⟩
          rw [g3, g4, e1]
          simp [Builtin.append_, run_underlying ht', sizeOf, typeInfo, hii, Builtin.lenOf, Builtin.firstCells, loadCells, loadCellsFrom]
        · have hb' := hb
          simp only [List.length_nil, Nat.zero_add] at hb' h63
          have hr := run_append_nil (P := P) C.w t ty e ii zv ht' hii hzv ad new.length cap vs (by rw [hvl, hiz]) (hmem ad rfl) (by omega) (by omega) (by rw [hib]; omega)
          have hge := grownCap_ge C.w new.length 0 e
          have p1 : (vs.toArray ++ Builtin.zeroCells zv.cells (grownCap C.w new.length 0 e - new.length)).size = grownCap C.w new.length 0 e * z := by
            simp only [Array.size_append, List.size_toArray, size_zeroCells, hzc, hvl, ← Nat.add_mul]
            congr 1; omega
          have p2 : ∀ k y, (flat ([] ++ new))[k]? = some y → Vl C y ((vs.toArray ++ Builtin.zeroCells zv.cells (grownCap C.w new.length 0 e - new.length)).getD k undef) := fun k y hy => by
            simp only [List.nil_append] at hy
            have hk := get_lt hy
            rw [flat_length hzn] at hk
            have e0 : (vs.toArray ++ Builtin.zeroCells zv.cells (grownCap C.w new.length 0 e - new.length)).getD k undef = vs.getD k undef := by
              simp [Array.getElem?_append_left (show k < vs.toArray.size by simp; omega), List.getD]
            rw [e0]; exact hvx k y hy
          obtain ⟨C', e1, e2, e3, e4, e5⟩ := fin (C.w.drew.alloc (.cells (vs.toArray ++ Builtin.zeroCells zv.cells (grownCap C.w new.length 0 e - new.length)) e)) (some C.w.heap.size) (grownCap C.w new.length 0 e) rfl rfl rfl
            (by simp) (fun b hb1 _ => heap_alloc_old C.w.drew _ b hb1) (.inr ⟨_, rfl, Nat.le_refl _, by simp⟩) (by simpa using hge) (.inr ⟨_, _, e, rfl, heap_alloc_new C.w.drew _, p1, p2⟩)
          refine ⟨_, C', ?_, e2, e3, e4, e5⟩
          rw [g3, g4, e1]
          simp only [List.length_nil, Nat.zero_add, Option.map_none, Option.map_some]
          rw [hr]
      · rw [g4]
        by_cases hroom : es.length + new.length ≤ C.κ n
        · have hfit : es.length * ii.size + vs.length ≤ c.size := by rw [hvl, hiz, g6, ← Nat.add_mul]; exact Nat.mul_le_mul_right _ hroom
          have hr := append_room (P := P) t ty e ii ht' hii C.w tt b es.length (C.κ n) c g5 ad new.length cap vs (by rw [hvl, hiz]) (hmem ad rfl) hgood hroom hfit
          rw [hiz] at hr hfit
          have p1 : (splice c.toList (es.length * z) vs).toArray.size = C.κ n * z := by
            rw [List.size_toArray, splice_length c.toList (es.length * z) vs (by simpa using hfit)]; simpa using g6
          have p2 : ∀ k y, (flat (es ++ new))[k]? = some y → Vl C y ((splice c.toList (es.length * z) vs).toArray.getD k undef) := fun k y hy => by
            have e0 : (splice c.toList (es.length * z) vs).toArray.getD k undef = ((splice c.toList (es.length * z) vs)[k]?).getD undef := by simp
            rw [e0, splice_get c.toList (es.length * z) vs (by simpa using hfit)]
            rw [flat_append] at hy
            have hfl := flat_length g1
            rcases Nat.lt_or_ge k (es.length * z) with hk | hk
            · rw [if_neg (by omega)]
              rw [List.getElem?_append_left (by omega)] at hy
              simpa using g7 k y hy
            · rw [List.getElem?_append_right (by omega), hfl] at hy
              have hk2 := get_lt hy
              rw [flat_length hzn] at hk2
              rw [if_pos ⟨hk, by omega⟩]
              simpa [List.getD] using hvx _ y hy
          obtain ⟨C', e1, e2, e3, e4, e5⟩ := fin (C.w.setRow b (splice c.toList (es.length * z) vs).toArray) (some b) (C.κ n) rfl rfl rfl (by simp [World.setRow])
            (fun b' _ hne => setRow_other C.w b b' _ (fun hh => hne (by rw [g4, hh]))) (.inl g4.symm) hroom (.inr ⟨b, _, tt, rfl, setRow_heap' g5, p1, p2⟩)
          refine ⟨_, C', ?_, e2, e3, e4, e5⟩
          rw [e1]
          simp only [Option.map_some]
          rw [hr]
        · have hcl : (c.toList.take (es.length * z)).length = es.length * z := by
            have : es.length * z ≤ C.κ n * z := Nat.mul_le_mul_right z g2
            simp; omega
          have hr := run_append_grow (P := P) C.w t ty e ii zv ht' hii hzv ⟨b, 0, none⟩ es.length (C.κ n) (c.toList.take (es.length * z)) (by rw [hcl, hiz]) (fun j u hj => by
            have hjl := get_lt hj
            rw [hcl] at hjl
            rw [add_none, Nat.zero_add, cell_cells g5 (o := j) (by simp at hcl; omega)]
            rw [List.getElem?_take_of_lt hjl] at hj
            simp at hj; simp [hj]) ad new.length cap vs (by rw [hvl, hiz]) (hmem ad rfl) (by omega) (by omega) (growslice_fits (by omega) (by rw [hib]; exact hb))
          have hge := grownCap_ge C.w (es.length + new.length) (C.κ n) e
          have e7 : (c.toList.take (es.length * z)).toArray.size = es.length * z := by simpa using hcl
          have p1 : ((c.toList.take (es.length * z)).toArray ++ vs.toArray ++ Builtin.zeroCells zv.cells (grownCap C.w (es.length + new.length) (C.κ n) e - (es.length + new.length))).size = grownCap C.w (es.length + new.length) (C.κ n) e * z := by
            simp only [Array.size_append, e7, List.size_toArray, size_zeroCells, hzc, hvl, ← Nat.add_mul]
            congr 1; omega
          have p2 : ∀ k y, (flat (es ++ new))[k]? = some y → Vl C y (((c.toList.take (es.length * z)).toArray ++ vs.toArray ++ Builtin.zeroCells zv.cells (grownCap C.w (es.length + new.length) (C.κ n) e - (es.length + new.length))).getD k undef) := fun k y hy => by
            rw [flat_append] at hy
            have hfl := flat_length g1
            have hap : ∀ (A B Z : Array Value), (A ++ B ++ Z).getD k undef = if k < A.size then A.getD k undef else if k - A.size < B.size then B.getD (k - A.size) undef else Z.getD (k - A.size - B.size) undef := by
              intro A B Z
              simp only [Array.getD_eq_getD_getElem?, Array.getElem?_append, Array.size_append]
              by_cases h1 : k < A.size
              · simp only [h1, if_true, show k < A.size + B.size by omega]
              · by_cases h2 : k - A.size < B.size
                · simp only [h1, h2, if_true, if_false, show k < A.size + B.size by omega]
                · simp only [h1, h2, if_false, show ¬ k < A.size + B.size by omega, show k - A.size - B.size = k - (A.size + B.size) by omega]
            rw [hap, e7]
            rcases Nat.lt_or_ge k (es.length * z) with hk | hk
            · rw [if_pos hk]
              rw [List.getElem?_append_left (by omega)] at hy
              have := g7 k y hy
              have e8 : (c.toList.take (es.length * z)).toArray.getD k undef = c.getD k undef := by
                simp [List.getElem?_take_of_lt hk]
              rw [e8]; exact this
            · rw [if_neg (by omega)]
              rw [List.getElem?_append_right (by omega), hfl] at hy
              have hk2 := get_lt hy
              rw [flat_length hzn] at hk2
              rw [if_pos (by simp; omega)]
              simpa [List.getD] using hvx _ y hy
          obtain ⟨C', e1, e2, e3, e4, e5⟩ := fin (C.w.drew.alloc (.cells ((c.toList.take (es.length * z)).toArray ++ vs.toArray ++ Builtin.zeroCells zv.cells (grownCap C.w (es.length + new.length) (C.κ n) e - (es.length + new.length))) e))
            (some C.w.heap.size) (grownCap C.w (es.length + new.length) (C.κ n) e) rfl rfl rfl
            (by simp) (fun b hb1 _ => heap_alloc_old C.w.drew _ b hb1) (.inr ⟨_, rfl, Nat.le_refl _, by simp⟩) hge (.inr ⟨_, _, e, rfl, heap_alloc_new C.w.drew _, p1, p2⟩)
          refine ⟨_, C', ?_, e2, e3, e4, e5⟩
          rw [e1]
          simp only [Option.map_some]
          rw [hr]


theorem append_exec {t : TypeId} {s x : Operand} {ρ : Operand → Value} {oo : Oper} (ho : oo.op = .call { callee := .builtin .append, args := #[s, x], argTypes := #[t, t] }) (w : World) :
    (execOp ρ oo).run P w = ((Builtin.append_ #[t, t] oo.type #[ρ s, ρ x]).run P w).andThen fun v w => .ok (.value v) w := by
  simp only [execOp, ho, resolve, Sem.run_bind, Sem.run_pure, Result.andThen_ok, invoke, builtin]
  simp

theorem ok_append_slo {t e : TypeId} {s x : Operand} {n ver len z bytes : Nat} {es new : List AV} (ht : sliceElem P t = some e) (hz : tsize P e = some z) (hby : tbytes P e = some bytes) {zs : List Value} (hzero : tzero P e = some zs) (hzl : zs.length = z)
    (hs : ev F s = .slo n ver 0 len) (hn : H[n]? = some (.vec z ver es)) (hlen : len = es.length) (hnew : srcElems H z (ev F x) = some new) (hg : new.all (AV.goodPart H) = true)
    (hb : (es.length + new.length) * bytes ≤ 140737488355328) (h63 : es.length + new.length ≤ 9223372036854775807) :
    OpOk P (.call { callee := .builtin .append, args := #[s, x], argTypes := #[t, t] }) F H (.slo n (ver + 1) 0 (len + new.length)) (H.set n (.vec z (ver + 1) (es ++ new))) := by
  intro K C ρ oo ho hp hH hρ
  subst hH
  subst hlen
  obtain ⟨u, C', h1, h2, h3, h4, h5⟩ := append_core (P := P) hp (ty := oo.type) ht hz hby hzero hzl (hs ▸ hρ s) (hρ x) hn hnew hg hb h63
  exact ⟨_, _, C', by rw [append_exec ho, h1]; rfl, .inl rfl, h2, h3, h4, h5⟩

/-- A nil slice is an own row without a block. -/
theorem push_nil {K : Kon} {C : Ctx} (hp : Hp K C) {z : Nat} (hz : 0 < z) :
    ∃ C', C'.w = C.w ∧ Ext C C' ∧ Hp K C' ∧ Vl C' (.slo C.H.length 0 0 0) (.slice none 0 0) ∧ C'.H = C.H ++ [.vec z 0 []] := by
  let C' : Ctx := { C with H := C.H ++ [.vec z 0 []], β := fun j => if j = C.H.length then none else C.β j, κ := fun j => if j = C.H.length then 0 else C.κ j }
  have hown : ∀ b, C'.own b → C.own b := fun b ⟨i, hi, hb⟩ => by
    simp [C'] at hi hb
    exact ⟨i, by omega, hb.2⟩
  have e : Ext C C' :=
    { len := by simp [C'], pers := fun b hb hs => ⟨rfl, fun h => h.elim (fun h => hb (.inl h)) (fun h => hb (.inr (hown b h)))⟩
      var := fun i cs hi => by have hl := get_lt hi; exact ⟨⟨cs, by simpa [C', List.getElem?_append_left hl] using hi⟩, by simp [C', Nat.ne_of_lt hl]⟩
      mapo := fun i cs hi => by have hl := get_lt hi; exact ⟨⟨cs, by simpa [C', List.getElem?_append_left hl] using hi⟩, by simp [C', Nat.ne_of_lt hl]⟩
      loopo := fun i cs hi => by have hl := get_lt hi; exact ⟨⟨cs, by simpa [C', List.getElem?_append_left hl] using hi⟩, by simp [C', Nat.ne_of_lt hl]⟩
      vec := fun i z v' es' hl hh => by
        simp only [C', List.getElem?_append_left hl] at hh
        exact ⟨v', es', hh, Nat.le_refl _, fun _ => ⟨Nat.le_refl _, by simp [C', Nat.ne_of_lt hl], by simp [C', Nat.ne_of_lt hl]⟩⟩ }
  refine ⟨C', rfl, e, ?_, .slo (by simp [C']) (fun z' v0 es hes => by simp [C'] at hes; omega) (fun z' es hes => by simp [C'] at hes; simp [C', hes.2.symm]), rfl⟩
  exact
    { X := hp.X, xown := fun b hx ho => hp.xown b hx (hown b ho), xlt := hp.xlt
      inj := fun i j b hi hj hbi hbj => by
        simp [C'] at hi hj hbi hbj
        exact hp.inj i j b (by omega) (by omega) hbi.2 hbj.2
      lt := fun i b hi hb => by simp [C'] at hi hb; exact hp.lt i b (by omega) hb.2
      obj := fun i o hio => by
        rcases Nat.lt_or_ge i C.H.length with hl | hl
        · simp only [C', List.getElem?_append_left hl] at hio
          exact (hp.obj i o hio).mono e (by simp [C', Nat.ne_of_lt hl]) (by simp [C', Nat.ne_of_lt hl]) (fun b hb => rfl)
        · have hi := get_lt hio
          simp [C'] at hi
          have : i = C.H.length := by omega
          subst this
          simp [C'] at hio
          subst hio
          exact ⟨hz, by simp, by simp, .inl ⟨by simp [C'], by simp [C']⟩⟩
      ext := hp.ext.trans e, os := hp.os, tape := hp.tape, output := hp.output, size := hp.size, same := hp.same
      ownn := fun b hb => hp.ownn b (hown b hb), glob := fun g cs hg => (hp.glob g cs hg).mono e }

theorem srcElems_push {H G : Heap} {z : Nat} {a : AV} {es : List AV} (h : srcElems H z a = some es) : srcElems (H ++ G) z a = some es := by
  cases a with
  | slo i ver off len =>
    simp only [srcElems] at h ⊢
    split at h
    · rename_i z' v es' hes
      rw [List.getElem?_append_left (get_lt hes), hes]; exact h
    · cases h
  | raw v =>
    cases v with
    | slice a l c => cases a with
      | none => cases l <;> cases c <;> exact h
      | some a => exact h
    | _ => exact h
  | _ => exact h

theorem good_push {H G : Heap} {x : AV} (h : x.good H = true) : x.good (H ++ G) = true := by
  cases x with
  | slo i ver off len =>
    simp only [AV.good, AV.isCell, fresh, Bool.and_eq_true] at h ⊢
    refine ⟨h.1, ?_⟩
    have h3 := h.2
    split at h3
    · rename_i z v es hes
      rw [List.getElem?_append_left (get_lt hes), hes]; exact h3
    · cases h3
  | pel i ver j off =>
    simp only [AV.good, AV.isCell, fresh, Bool.and_eq_true] at h ⊢
    refine ⟨⟨trivial, ?_⟩, trivial⟩
    have h3 := h.1.2
    split at h3
    · rename_i z v es hes
      rw [List.getElem?_append_left (get_lt hes), hes]; exact h3
    · cases h3
  | _ => exact h

theorem goodPart_push {H G : Heap} {x : AV} (h : x.goodPart H = true) : x.goodPart (H ++ G) = true := by
  cases x with
  | agg cs =>
    simp only [AV.goodPart, List.all_eq_true] at h ⊢
    exact fun x hx => good_push (h x hx)
  | _ => exact good_push h

theorem ok_append_nil {t e : TypeId} {s x : Operand} {z bytes : Nat} {new : List AV} (ht : sliceElem P t = some e) (hz : tsize P e = some z) (hz0 : 0 < z) (hby : tbytes P e = some bytes) {zs : List Value} (hzero : tzero P e = some zs) (hzl : zs.length = z)
    (hs : ev F s = .raw (.slice none 0 0)) (hnew : srcElems H z (ev F x) = some new) (hg : new.all (AV.goodPart H) = true)
    (hb : new.length * bytes ≤ 140737488355328) (h63 : new.length ≤ 9223372036854775807) :
    OpOk P (.call { callee := .builtin .append, args := #[s, x], argTypes := #[t, t] }) F H (.slo H.length 1 0 new.length) (H ++ [.vec z 1 new]) := by
  intro K C ρ oo ho hp hH hρ
  subst hH
  obtain ⟨C1, e1, e2, e3, e4, e5⟩ := push_nil hp hz0
  have hss : ρ s = .slice none 0 0 := Vl.raw_inv (hs ▸ hρ s)
  have hnew' : srcElems C1.H z (ev F x) = some new := by rw [e5]; exact srcElems_push hnew
  have hg' : new.all (AV.goodPart C1.H) = true := by
    rw [e5, List.all_eq_true] at *
    exact fun x hx => goodPart_push (hg x hx)
  obtain ⟨u, C', h1, h2, h3, h4, h5⟩ := append_core (P := P) e3 (ty := oo.type) ht hz hby hzero hzl (es := []) (hss ▸ e4) ((hρ x).mono e2) (by rw [e5]; simp) hnew' hg' (by simpa using hb) (by simpa using h63)
  refine ⟨_, _, C', by rw [append_exec ho, ← e1, h1]; rfl, .inl rfl, e2.trans h2, h3, by simpa using h4, ?_⟩
  rw [h5, e5]
  simp

end

end Go.Ab
