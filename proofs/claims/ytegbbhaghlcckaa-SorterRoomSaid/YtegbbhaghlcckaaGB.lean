/- A program logic over the model: contracts of calls, proved from the model alone, without conditions. -/
import Derived.Test.YtegbbhaghlcckaaGA
import Derived.Laws.Small
import Derived.Laws.Shifts
import Derived.BigFrame
import Derived.OrdersIn
set_option linter.unusedSimpArgs false
set_option linter.unusedVariables false
namespace Go.Ab
open Go

def splice {α : Type} (l : List α) (off : Nat) (xs : List α) : List α := l.take off ++ xs ++ l.drop (off + xs.length)

theorem splice_length {α : Type} (l : List α) (off : Nat) (xs : List α) (h : off + xs.length ≤ l.length) : (splice l off xs).length = l.length := by
  unfold splice; simp; omega

theorem splice_get {α : Type} (l : List α) (off : Nat) (xs : List α) (h : off + xs.length ≤ l.length) (k : Nat) :
    (splice l off xs)[k]? = if off ≤ k ∧ k < off + xs.length then xs[k - off]? else l[k]? := by
  unfold splice
  rcases Nat.lt_or_ge k off with h1 | h1
  · rw [if_neg (by omega), List.append_assoc, List.getElem?_append_left (by simp; omega), List.getElem?_take_of_lt h1]
  · rcases Nat.lt_or_ge k (off + xs.length) with h2 | h2
    · rw [if_pos ⟨h1, h2⟩, List.getElem?_append_left (by simp; omega), List.getElem?_append_right (by simp; omega)]
      congr 1; simp; omega
    · rw [if_neg (by omega), List.getElem?_append_right (by simp; omega), List.getElem?_drop]
      congr 1; simp; omega

theorem flat_upd {z : Nat} : ∀ (es : List AV) (j : Nat) (e e' : AV) (off : Nat) (xs : List AV), (∀ e ∈ es, e.cells.length = z) → es[j]? = some e → off + xs.length ≤ z →
    (∀ k, e'.cells[k]? = if off ≤ k ∧ k < off + xs.length then xs[k - off]? else e.cells[k]?) →
    ∀ q, (flat (es.set j e'))[q]? = if j * z + off ≤ q ∧ q < j * z + off + xs.length then xs[q - (j * z + off)]? else (flat es)[q]?
  | [], j, e, e', off, xs, _, h, _, _, q => by simp at h
  | x :: es, j, e, e', off, xs, hz, h, hl, hc, q => by
    have hx := hz x (by simp)
    have hlen : e'.cells.length = e.cells.length := by
      have ext : ∀ k, (e'.cells[k]?).isSome = (e.cells[k]?).isSome := fun k => by
        rw [hc k]
        split
        · rename_i hk
          have : e.cells.length = z := hz e (List.mem_of_getElem? h)
          rw [List.getElem?_eq_getElem (by omega), List.getElem?_eq_getElem (by omega)]; rfl
        · rfl
      rcases Nat.lt_trichotomy e'.cells.length e.cells.length with h1 | h1 | h1
      · have := ext e'.cells.length
        rw [List.getElem?_eq_none (Nat.le_refl _), List.getElem?_eq_getElem h1] at this; simp at this
      · exact h1
      · have := ext e.cells.length
        rw [List.getElem?_eq_none (l := e.cells) (Nat.le_refl _), List.getElem?_eq_getElem h1] at this; simp at this
    cases j with
    | zero =>
      simp at h; subst h
      simp only [List.set_cons_zero, flat, List.flatMap_cons, Nat.zero_mul, Nat.zero_add]
      rcases Nat.lt_or_ge q z with hq | hq
      · rw [List.getElem?_append_left (by omega), hc q]
        split
        · rfl
        · rw [List.getElem?_append_left (by omega)]
      · rw [if_neg (by omega), List.getElem?_append_right (by omega), List.getElem?_append_right (by omega)]
        congr 1; omega
    | succ j =>
      simp at h
      have ih := flat_upd es j e e' off xs (fun y hy => hz y (by simp [hy])) h hl hc (q - z)
      simp only [List.set_cons_succ, flat, List.flatMap_cons] at ih ⊢
      have hm : (j + 1) * z = j * z + z := Nat.succ_mul j z
      rcases Nat.lt_or_ge q z with hq | hq
      · rw [List.getElem?_append_left (by omega), List.getElem?_append_left (by omega), if_neg (by omega)]
      · rw [List.getElem?_append_right (by omega), List.getElem?_append_right (by omega), hx, ih]
        by_cases hc' : j * z + off ≤ q - z ∧ q - z < j * z + off + xs.length
        · rw [if_pos hc', if_pos (by omega)]
          congr 1; omega
        · rw [if_neg hc', if_neg (by omega)]

/-- An element with some of its cells turned. -/
def putElem (e : AV) (off : Nat) (xs : List AV) : AV :=
  match e with
  | .agg cs => .agg (splice cs off xs)
  | _ => xs.headD .any

def elemOk (e : AV) (xs : List AV) : Bool :=
  match e with
  | .agg _ => true
  | _ => AV.isCell (xs.headD .any)

def wrCells (H : Heap) (a : AV) (xs : List AV) : Option Heap :=
  match a with
  | .ptr i off => match H[i]? with
    | some (.var cs) => if off + xs.length ≤ cs.length then some (H.set i (.var (splice cs off xs))) else none
    | _ => none
  | .pel i ver j off => match H[i]? with
    | some (.vec z v es) => if v = ver then match es[j]? with
        | some e => if off + xs.length ≤ e.cells.length ∧ 0 < xs.length ∧ elemOk e xs = true then some (H.set i (.vec z ver (es.set j (putElem e off xs)))) else none
        | none => none
      else none
    | _ => none
  | _ => none

theorem putElem_cells {e : AV} {off : Nat} {xs : List AV} (h : off + xs.length ≤ e.cells.length) (h0 : 0 < xs.length) (hc : elemOk e xs = true) (k : Nat) :
    (putElem e off xs).cells[k]? = if off ≤ k ∧ k < off + xs.length then xs[k - off]? else e.cells[k]? := by
  have single : e.cells = [e] → AV.isCell (xs.headD .any) = true → (xs.headD .any).cells[k]? = if off ≤ k ∧ k < off + xs.length then xs[k - off]? else e.cells[k]? := by
    intro h1 h2
    rw [h1] at h
    have e1 : off = 0 := by simp at h; omega
    have e2 : xs.length = 1 := by simp at h; omega
    subst e1
    match xs, e2 with
    | [x], _ =>
      have h3 : x.cells = [x] := by cases x <;> simp [AV.isCell] at h2 <;> rfl
      simp only [List.headD_cons, h3, h1, List.length_singleton]
      cases k with
      | zero => simp
      | succ k => simp
  cases e with
  | agg cs => exact splice_get cs off xs h k
  | _ => exact single rfl hc

theorem setRow_heap' {w : World} {b : Nat} {c c' : Array Value} {t : TypeId} (h : w.heap[b]? = some (.cells c t (0, 0))) : (w.setRow b c').heap[b]? = some (.cells c' t (0, 0)) := setRow_heap w b c c' t (0, 0) h

theorem wrCells_ok {P : Program} {K : Kon} {C : Ctx} (hp : Hp K C) {a : AV} {v : Value} (hv : Vl C a v) {xs : List AV} {us : List Value} {H' : Heap} (h : wrCells C.H a xs = some H')
    (hl : us.length = xs.length) (hx : ∀ k x, xs[k]? = some x → Vl C x (us.getD k undef)) (h1 : ∀ u ∈ us, u.oneCell' = true) :
    ∃ b o w' C', v = .pointer (some ⟨b, o, none⟩) ∧ (storeCells ⟨b, o, none⟩ us).run P C.w = .ok () w' ∧ C'.w = w' ∧ Ext C C' ∧ Hp K C' ∧ C'.H = H' := by
  have upd : ∀ (i b o n : Nat) (c : Array Value) (t : TypeId) (ob : AObj), i < C.H.length → C.β i = some b → C.w.heap[b]? = some (.cells c t (0, 0)) → o + us.length ≤ c.size →
      (match C.H[i]?, ob with
        | some (.var _), .var _ => True
        | some (.vec z v es), .vec z' v' es' => z' = z ∧ v' = v ∧ es'.length = es.length
        | _, _ => False) →
      (∀ C', Ext C C' → C'.w.heap[b]? = some (.cells (splice c.toList o us).toArray t (0, 0)) → C'.β i = some b → C'.κ i = C.κ i → ObjOk C' i ob) →
      ∃ w' C', (storeCells ⟨b, o, none⟩ us).run P C.w = .ok () w' ∧ C'.w = w' ∧ Ext C C' ∧ Hp K C' ∧ C'.H = C.H.set i ob := by
    intro i b o n c t ob hi hb hbk hle hk hok
    have hrun := run_storeCells_at P b o t us 0 c C.w hbk (by omega) h1
    rw [Nat.add_zero] at hrun
    have := hp.upd (C.w.setRow b (splice c.toList o us).toArray) i hi ob (C.β i) (C.κ i) rfl rfl rfl (by simp [World.setRow]) (fun b' hb' hne => by
        refine setRow_other C.w b b' _ (fun hh => hne (by rw [hb, hh])) ) (.inl rfl) _ rfl
      (by
        revert hk
        cases hq : C.H[i]? with
        | none => simp
        | some q => cases q <;> cases ob <;> simp
                    rintro rfl rfl he
                    exact ⟨rfl, Nat.le_refl _, fun _ => by omega⟩)
      (fun e => hok _ e (setRow_heap' hbk) (by simp [hb]) (by simp))
    exact ⟨_, _, hrun, rfl, this.1, this.2, rfl⟩
  cases hv with
  | ptr hh hb =>
    rename_i i off b
    obtain ⟨cs, hh⟩ := hh
    simp only [wrCells, hh] at h
    split at h <;> simp at h
    rename_i hle
    subst h
    obtain ⟨b', c, t, g1, g2, g3, g4⟩ := hp.obj i _ hh
    rw [hb] at g1; cases g1
    obtain ⟨w', C', k1, k2, k3, k4, k5⟩ := upd i b off 0 c t (.var (splice cs off xs)) (get_lt hh) hb g2 (by omega) (by rw [hh]; trivial) (fun C' e hw hβ _ => by
      refine ⟨b, _, t, hβ, hw, ?_, fun k x hk => ?_⟩
      · simp [splice_length cs off xs hle, splice_length c.toList off us (by simp; omega)]; omega
      · rw [splice_get cs off xs hle] at hk
        have e1 : (splice c.toList off us).toArray.getD k undef = ((splice c.toList off us)[k]?).getD undef := by simp
        rw [e1, splice_get c.toList off us (by simp; omega), hl]
        split
        · rename_i hc
          rw [if_pos hc] at hk
          have := hx _ x hk
          simpa [List.getD] using this.mono e
        · rename_i hc
          rw [if_neg hc] at hk
          have := g4 k x hk
          simpa using this.mono e)
    exact ⟨b, off, w', C', rfl, k1, k2, k3, k4, k5⟩
  | pel hi hv hh =>
    rename_i i ver j off
    simp only [wrCells] at h
    split at h
    · rename_i z vv es hes
      split at h
      · rename_i hver
        subst hver
        split at h
        · rename_i e he
          by_cases hc : off + xs.length ≤ e.cells.length ∧ 0 < xs.length ∧ elemOk e xs = true
          case neg => rw [if_neg hc] at h; cases h
          rw [if_pos hc] at h
          obtain ⟨hle, h0, hcell⟩ := hc
          have h := Option.some.inj h
          subst h
          obtain ⟨hj, b, hb, rfl⟩ := hh _ _ hes
          obtain ⟨g0, g1, g2, g3⟩ := hp.obj i _ hes
          rcases g3 with g3 | ⟨b', c, t, g4, g5, g6, g7⟩
          · rw [hb] at g3; cases g3.1
          rw [hb] at g4; cases g4
          have hez := g1 e (List.mem_of_getElem? he)
          have hfl := flat_length g1
          have hcap : es.length * z ≤ C.κ i * z := Nat.mul_le_mul_right z g2
          have hjz : j * z + z ≤ es.length * z := by rw [← Nat.succ_mul]; exact Nat.mul_le_mul_right z hj
          have hput := putElem_cells hle h0 hcell
          have hfu := flat_upd es j e (putElem e off xs) off xs g1 he (by omega) hput
          obtain ⟨w', C', k1, k2, k3, k4, k5⟩ := upd i b (j * z + off) 0 c t (.vec z vv (es.set j (putElem e off xs))) hi hb g5 (by omega) (by rw [hes]; simp) (fun C' ex hw hβ hκ => by
            refine ⟨g0, fun y hy => ?_, by rw [hκ]; simpa using g2, .inr ⟨b, _, t, hβ, hw, ?_, fun k x hk => ?_⟩⟩
            · rcases List.mem_or_eq_of_mem_set hy with hy | rfl
              · exact g1 y hy
              · have lenE : (putElem e off xs).cells.length = e.cells.length := by
                  cases e with
                  | agg cs => exact splice_length cs off xs hle
                  | _ =>
                    simp only [AV.cells, List.length_singleton] at hle
                    match xs, h0 with
                    | [x], _ => 
                      simp only [putElem, elemOk, List.headD_cons] at hcell ⊢
                      cases x <;> simp [AV.isCell] at hcell <;> rfl
                    | _ :: _ :: _, _ => simp at hle; omega
                omega
            · rw [hκ]; simp [splice_length c.toList (j * z + off) us (by simp; omega)]; omega
            · rw [hfu] at hk
              have e1 : (splice c.toList (j * z + off) us).toArray.getD k undef = ((splice c.toList (j * z + off) us)[k]?).getD undef := by simp
              rw [e1, splice_get c.toList (j * z + off) us (by simp; omega), hl]
              split
              · rename_i hc
                rw [if_pos hc] at hk
                have := hx _ x hk
                simpa [List.getD] using this.mono ex
              · rename_i hc
                rw [if_neg hc] at hk
                have := g7 k x hk
                simpa using this.mono ex)
          exact ⟨b, _, w', C', rfl, k1, k2, k3, k4, k5⟩
        · cases h
      · cases h
    · cases h
  | _ => simp [wrCells] at h

theorem ok_store {P : Program} {F : Frm} {H H' : Heap} {t : TypeId} {a x : Operand} (hs : tsize P t = some (ev F x).cells.length) (hg : (ev F x).goodPart H = true) (h : wrCells H (ev F a) (ev F x).cells = some H') :
    OpOk P (.store t a x) F H (.raw undef) H' := by
  intro K C ρ oo ho hp hH hρ
  subst hH
  obtain ⟨h1, h2, h3⟩ := part_cells (hρ x) hg
  obtain ⟨b, o, w', C', k0, k1, k2, k3, k4, k5⟩ := wrCells_ok (P := P) hp (hρ a) h (us := (ρ x).cells.toList) (by simpa using h1) (fun k y hy => by
    have := h2 k y hy
    simpa [List.getD] using this) h3
  refine ⟨.skip, undef, C', ?_, .inr ⟨rfl, rfl⟩, k3, k4, .raw _, k5⟩
  have hsz : (ρ x).cells.size = (ev F x).cells.length := h1
  simp only [execOp, ho, Instr.storeAt, k0, Instr.sureAddr, Sem.run_bind, Sem.run_pure, Result.andThen_ok, storeVar, tsize_run hs, hsz, ne_eq, not_true, if_false, k1, k2]

end Go.Ab
namespace Go.Ab
open Go

/-- The elements that an operand of append has. -/
def srcElems (H : Heap) (z : Nat) : AV → Option (List AV)
  | .sl z' _ es => if z' = z then some es else none
  | .slo i ver off len => match H[i]? with
    | some (.vec z' v es) => if v = ver ∧ z' = z then some ((es.drop off).take len) else none
    | _ => none
  | .raw (.slice none 0 0) => some []
  | _ => none

theorem flat_take {z : Nat} : ∀ {es : List AV}, (∀ e ∈ es, e.cells.length = z) → ∀ n, flat (es.take n) = (flat es).take (n * z)
  | [], _, n => by simp [flat]
  | x :: es, hz, 0 => by simp [flat]
  | x :: es, hz, n + 1 => by
    have := flat_take (es := es) (fun y hy => hz y (by simp [hy])) n
    have hx := hz x (by simp)
    simp only [List.take_succ_cons, flat, List.flatMap_cons] at this ⊢
    rw [this, Nat.succ_mul, List.take_append, hx, show n * z + z - z = n * z by omega, List.take_of_length_le (l := x.cells) (by omega)]

theorem flat_append (a b : List AV) : flat (a ++ b) = flat a ++ flat b := by simp [flat]

/-- Where they lie. -/
theorem srcElems_ok {K : Kon} {C : Ctx} (hp : Hp K C) {z : Nat} (hz0 : 0 < z) {a : AV} {v : Value} (hv : Vl C a v) {es : List AV} (h : srcElems C.H z a = some es) :
    ∃ ad cap, v = .slice ad es.length cap ∧ (ad = none → es = [] ∧ cap = 0) ∧ (∀ e ∈ es, e.cells.length = z) ∧
      ∃ vs : List Value, vs.length = es.length * z ∧ (∀ k x, (flat es)[k]? = some x → Vl C x (vs.getD k undef)) ∧ (∀ x, ad = some x → ∀ k u, vs[k]? = some u → C.w.cell? (x.add k) = some u) := by
  cases hv with
  | sl g hz hcap hfull hn hs ha hL hx =>
    rename_i z' full es' a cap
    simp only [srcElems] at h
    split at h <;> simp at h
    rename_i hzz
    subst hzz; subst h
    refine ⟨a, cap, rfl, fun h0 => ?_, hs, (List.range (es'.length * z')).map g, by simp, fun k x hk => ?_, fun x hxa k u hk => ?_⟩
    · have := hn h0
      exact ⟨List.length_eq_zero_iff.1 (by omega), this⟩
    · have hl := get_lt hk
      rw [flat_length hs] at hl
      have : ((List.range (es'.length * z')).map g).getD k undef = g k := by simp [List.getD, hl]
      rw [this]; exact hx k x hk
    · have hl := get_lt hk
      simp at hl
      have hne : es' ≠ [] := by intro h0; subst h0; simp at hl
      obtain ⟨h1, h2, h3⟩ := ha x hxa hne
      obtain ⟨b, o, sp⟩ := x
      simp only at h1; subst h1
      rw [add_none]
      simp [hl] at hk
      rw [← hk]; exact h3 k hl
  | slo hi hv hh =>
    rename_i i ver off len
    simp only [srcElems] at h
    split at h
    · rename_i z' vv es' hes
      split at h <;> simp at h
      rename_i hc
      obtain ⟨rfl, rfl⟩ := hc
      subst h
      obtain ⟨hl, rfl⟩ := hh _ _ hes
      obtain ⟨g0, g1, g2, g3⟩ := hp.obj i _ hes
      have hlen : ((es'.drop off).take len).length = len := by simp; omega
      have hzd : ∀ e ∈ es'.drop off, e.cells.length = z' := fun e he => g1 e (List.mem_of_mem_drop he)
      have hz' : ∀ e ∈ (es'.drop off).take len, e.cells.length = z' := fun e he => hzd e (List.mem_of_mem_take he)
      rcases g3 with ⟨g3, g4⟩ | ⟨b, c, t, g4, g5, g6, g7⟩
      · have h0 : es' = [] := List.length_eq_zero_iff.1 (by omega)
        subst h0
        have h01 : len = 0 := by simp at hl; omega
        subst h01
        rw [g3, g4]
        exact ⟨none, 0, by simp, fun _ => ⟨by simp, rfl⟩, by simp, [], by simp, fun k x hk => by simp [flat] at hk, fun x hx => by cases hx⟩
      · have hcap : off * z' + len * z' ≤ c.size := by rw [g6, ← Nat.add_mul]; exact Nat.mul_le_mul_right z' (by omega)
        refine ⟨some ⟨b, off * z', none⟩, C.κ i - off, (by rw [g4, hlen]; rfl), (fun h => by cases h), hz', (c.toList.drop (off * z')).take (len * z'), (by rw [hlen]; simp; omega), fun k x hk => ?_, fun x hxa k u hk => ?_⟩
        · rw [flat_take hzd, flat_drop g1] at hk
          have hkl : k < len * z' := by have := get_lt hk; simp at this; omega
          rw [List.getElem?_take_of_lt hkl, List.getElem?_drop] at hk
          have := g7 _ x hk
          have e : ((c.toList.drop (off * z')).take (len * z')).getD k undef = c.getD (off * z' + k) undef := by
            simp [List.getD, List.getElem?_take_of_lt hkl]
          rw [e]; exact this
        · cases hxa
          rw [add_none]
          have hkl : k < len * z' := by have := get_lt hk; simp at this; omega
          rw [List.getElem?_take_of_lt hkl, List.getElem?_drop] at hk
          have := cell_cells g5 (o := off * z' + k) (by omega)
          rw [this]
          simp at hk
          simp [hk]
    · cases h
  | raw u =>
    cases v with
    | slice a l c =>
      cases a with
      | some a => simp [srcElems] at h
      | none => cases l with
        | succ l => simp [srcElems] at h
        | zero => cases c with
          | succ c => simp [srcElems] at h
          | zero =>
            simp [srcElems] at h
            subst h
            exact ⟨none, 0, rfl, fun _ => ⟨rfl, rfl⟩, by simp, [], by simp, fun k x hk => by simp [flat] at hk, fun x hx => by cases hx⟩
    | _ => simp [srcElems] at h
  | _ => simp [srcElems] at h

section
variable {P : Program} {F : Frm} {H : Heap}

def tbytes (P : Program) (t : TypeId) : Option Nat := (P.info? t).map (·.bytes)

theorem good_src {C : Ctx} {es : List AV} {vs : List Value} (hg : es.all (AV.goodPart C.H) = true) (hl : vs.length = (flat es).length) (hv : ∀ k x, (flat es)[k]? = some x → Vl C x (vs.getD k undef)) :
    ∀ u ∈ vs, u.oneCell' = true := by
  intro u hu
  obtain ⟨k, hk, rfl⟩ := List.mem_iff_getElem.1 hu
  have hx := List.getElem?_eq_getElem (l := flat es) (i := k) (by omega)
  have h1 := hv k _ hx
  have h2 : vs.getD k undef = vs[k] := by simp [List.getD, hk]
  rw [h2] at h1
  refine good_one h1 ?_
  have hm := List.getElem_mem (l := flat es) (n := k) (by omega)
  simp only [flat, List.mem_flatMap] at hm
  obtain ⟨e, he, hme⟩ := hm
  have hge := List.all_eq_true.1 hg e he
  cases e with
  | agg cs => simp only [AV.goodPart, List.all_eq_true] at hge; exact hge _ hme
  | _ => simp only [AV.cells, List.mem_singleton] at hme; exact (congrArg (AV.good C.H) hme).trans hge

theorem append_room (t ty e : TypeId) (i : TypeInfo) (ht : P.underlying t = some (.slice e)) (hi : P.info? e = some i) (w : World) (tt : TypeId)
    (g sLen sCap : Nat) (cur : Array Value) (hg : w.heap[g]? = some (.cells cur tt (0, 0)))
    (a : Addr) (m c : Nat) (news : List Value) (hl : news.length = m * i.size) (hnews : ∀ j u, news[j]? = some u → w.cell? (a.add j) = some u) (h1 : ∀ u ∈ news, u.oneCell' = true)
    (hroom : sLen + m ≤ sCap) (hfit : sLen * i.size + news.length ≤ cur.size) :
    (Builtin.append_ #[t, t] ty #[.slice (some ⟨g, 0, none⟩) sLen sCap, .slice (some a) m c]).run P w =
      .ok (.slice (some ⟨g, 0, none⟩) (sLen + m) sCap) (w.setRow g (splice cur.toList (sLen * i.size) news).toArray) := by
  have hf := run_firstCells_some (P := P) w i.size m a m c news hl hnews
  have hst := run_storeCells_at P g (sLen * i.size) tt news 0 cur w hg (by simpa using hfit) h1
  simp only [Nat.add_zero] at hst
  have hadd : (⟨g, 0, none⟩ : Addr).add (sLen * i.size) = ⟨g, sLen * i.size, none⟩ := by rw [add_none]; simp
  simp [Builtin.append_, run_underlying ht, sizeOf, typeInfo, hi, Builtin.lenOf, hroom, hf, hadd, hst, splice]

theorem append_none (t ty e : TypeId) (i : TypeInfo) (ht : P.underlying t = some (.slice e)) (hi : P.info? e = some i) (a : Option Addr) (n c : Nat) (hnc : n ≤ c) (w : World) :
    (Builtin.append_ #[t, t] ty #[.slice a n c, .slice none 0 0]).run P w = .ok (.slice a n c) w := by
  cases a with
  | none => simp [Builtin.append_, run_underlying ht, sizeOf, typeInfo, hi, Builtin.lenOf, Builtin.firstCells, hnc]
  | some a => simp [Builtin.append_, run_underlying ht, sizeOf, typeInfo, hi, Builtin.lenOf, Builtin.firstCells, hnc, storeCells]

/-- append at the end of an own row, on values. -/
theorem append_core {K : Kon} {C : Ctx} (hp : Hp K C) {t ty e : TypeId} {n ver z bytes : Nat} {es new : List AV} (ht : sliceElem P t = some e) (hz : tsize P e = some z) (hby : tbytes P e = some bytes) {zs : List Value} (hzero : tzero P e = some zs) (hzl : zs.length = z)
    {vs0 vx : Value} {ax : AV} (hss : Vl C (.slo n ver 0 es.length) vs0) (hx : Vl C ax vx) (hn : C.H[n]? = some (.vec z ver es)) (hnew : srcElems C.H z ax = some new) (hg : new.all (AV.goodPart C.H) = true)
    (hb : (es.length + new.length) * bytes ≤ 140737488355328) (h63 : es.length + new.length ≤ 9223372036854775807) :
    ∃ u C', (Builtin.append_ #[t, t] ty #[vs0, vx]).run P C.w = .ok u C'.w ∧ Ext C C' ∧ Hp K C' ∧ Vl C' (.slo n (ver + 1) 0 (es.length + new.length)) u ∧ C'.H = C.H.set n (.vec z (ver + 1) (es ++ new)) := by
  obtain ⟨g0, g1, g2, g3⟩ := hp.obj n _ hn
  have hnl := get_lt hn
  obtain ⟨ad, cap, rfl, hnone, hzn, vs, hvl, hvx, hmem⟩ := srcElems_ok hp g0 hx hnew
  have ht' := sliceElem_spec ht
  obtain ⟨ii, hii⟩ : ∃ ii, P.info? e = some ii := by
    unfold tsize at hz; cases h : P.info? e with
    | none => simp [h] at hz
    | some ii => exact ⟨ii, rfl⟩
  have hiz : ii.size = z := by simp [tsize, hii] at hz; exact hz
  have hib : ii.bytes = bytes := by simp [tbytes, hii] at hby; exact hby
  obtain ⟨zv, hzv⟩ : ∃ zv, ii.zero = some zv := by
    cases h : ii.zero with
    | none => simp [tzero, hii, h] at hzero
    | some zv => exact ⟨zv, rfl⟩
  have hzc : zv.cells.size = z := by
    simp [tzero, hii, hzv] at hzero
    rw [← hzl, ← hzero]; simp
  have hgood := good_src hg (by rw [flat_length hzn]; exact hvl) hvx
  cases hss with
  | slo hi hv hh =>
    obtain ⟨_, hhv⟩ := hh _ _ hn
    simp only [Nat.zero_mul, Nat.sub_zero] at hhv
    subst hhv
    have hsz : ∀ q ∈ es ++ new, q.cells.length = z := fun q hq => by
      rcases List.mem_append.1 hq with h | h
      · exact g1 q h
      · exact hzn q h
    -- the object's upkeep
    have fin : ∀ (w' : World) (b' : Option Nat) (cap' : Nat), w'.os = C.w.os → w'.tape = C.w.tape → w'.output = C.w.output → C.w.heap.size ≤ w'.heap.size →
        (∀ b, b < C.w.heap.size → C.β n ≠ some b → w'.heap[b]? = C.w.heap[b]?) → (b' = C.β n ∨ ∃ b, b' = some b ∧ C.w.heap.size ≤ b ∧ b < w'.heap.size) → es.length + new.length ≤ cap' →
        ((b' = none ∧ cap' = 0) ∨ ∃ b c tt, b' = some b ∧ w'.heap[b]? = some (.cells c tt (0, 0)) ∧ c.size = cap' * z ∧ ∀ k y, (flat (es ++ new))[k]? = some y → Vl C y (c.getD k undef)) →
        ∃ C', C'.w = w' ∧ Ext C C' ∧ Hp K C' ∧ Vl C' (.slo n (ver + 1) 0 (es.length + new.length)) (.slice (b'.map fun b => ⟨b, 0, none⟩) (es.length + new.length) cap') ∧ C'.H = C.H.set n (.vec z (ver + 1) (es ++ new)) := by
      intro w' b' cap' h1 h2 h3 h4 h5 h6 h7 h8
      have := hp.upd w' n hnl (.vec z (ver + 1) (es ++ new)) b' cap' h1 h2 h3 h4 h5 h6 _ rfl (by rw [hn]; exact ⟨rfl, by omega, fun h => by omega⟩) (fun ex => by
        refine ⟨g0, hsz, by simpa using h7, ?_⟩
        rcases h8 with ⟨h9, h10⟩ | ⟨b, c, tt, h9, h10, h11, h12⟩
        · exact .inl ⟨by simpa using h9, by simpa using h10⟩
        · exact .inr ⟨b, c, tt, by simpa using h9, h10, by simpa using h11, fun k y hy => (h12 k y hy).mono ex⟩)
      refine ⟨_, rfl, this.1, this.2, .slo (by simpa using hnl) (fun z' v0 es' hes' => ?_) (fun z' es' hes' => ?_), rfl⟩
      · simp [hnl] at hes'; omega
      · simp [hnl] at hes'
        obtain ⟨_, rfl⟩ := hes'
        simp
    cases ad with
    | none =>
      obtain ⟨rfl, rfl⟩ := hnone rfl
      have := append_none (P := P) t ty e ii ht' hii ((C.β n).map fun b => ⟨b, 0, none⟩) es.length (C.κ n) g2 C.w
      obtain ⟨C', e1, e2, e3, e4, e5⟩ := fin C.w (C.β n) (C.κ n) rfl rfl rfl (Nat.le_refl _) (fun _ _ _ => rfl) (.inl rfl) (by simpa using g2) (by simpa using g3)
      refine ⟨_, C', ?_, e2, e3, e4, e5⟩
      simp only [List.length_nil, Nat.add_zero]
      rw [this, e1]
    | some ad =>
      rcases g3 with ⟨g3, g4⟩ | ⟨b, c, tt, g4, g5, g6, g7⟩
      · -- no row yet
        have h0 : es = [] := List.length_eq_zero_iff.1 (by omega)
        subst h0
        by_cases hm : new.length = 0
        · have h0 : new = [] := List.length_eq_zero_iff.1 hm
          subst h0
          obtain ⟨C', e1, e2, e3, e4, e5⟩ := fin C.w (C.β n) (C.κ n) rfl rfl rfl (Nat.le_refl _) (fun _ _ _ => rfl) (.inl rfl) (by simp) (.inl ⟨g3, g4⟩)
          refine ⟨_, C', ?_, e2, e3, e4, e5⟩
          rw [g3, g4, e1]
          simp [Builtin.append_, run_underlying ht', sizeOf, typeInfo, hii, Builtin.lenOf, Builtin.firstCells, loadCells, loadCellsFrom]
        · have hb' := hb
          simp only [List.length_nil, Nat.zero_add] at hb' h63
          have hr := run_append_nil (P := P) C.w t ty e ii zv ht' hii hzv ad new.length cap vs (by rw [hvl, hiz]) (hmem ad rfl) (by omega) (by omega) (by rw [hib]; omega)
          have hge := grownCap_ge C.w new.length 0 e
          have p1 : (vs.toArray ++ Builtin.zeroCells zv.cells (grownCap C.w new.length 0 e - new.length)).size = grownCap C.w new.length 0 e * z := by
            simp only [Array.size_append, List.size_toArray, size_zeroCells, hzc, hvl, ← Nat.add_mul]
            congr 1; omega
          have p2 : ∀ k y, (flat ([] ++ new))[k]? = some y → Vl C y ((vs.toArray ++ Builtin.zeroCells zv.cells (grownCap C.w new.length 0 e - new.length)).getD k undef) := fun k y hy => by
            simp only [List.nil_append] at hy
            have hk := get_lt hy
            rw [flat_length hzn] at hk
            have e0 : (vs.toArray ++ Builtin.zeroCells zv.cells (grownCap C.w new.length 0 e - new.length)).getD k undef = vs.getD k undef := by
              simp [Array.getElem?_append_left (show k < vs.toArray.size by simp; omega), List.getD]
            rw [e0]; exact hvx k y hy
          obtain ⟨C', e1, e2, e3, e4, e5⟩ := fin (C.w.drew.alloc (.cells (vs.toArray ++ Builtin.zeroCells zv.cells (grownCap C.w new.length 0 e - new.length)) e)) (some C.w.heap.size) (grownCap C.w new.length 0 e) rfl rfl rfl
            (by simp) (fun b hb1 _ => heap_alloc_old C.w.drew _ b hb1) (.inr ⟨_, rfl, Nat.le_refl _, by simp⟩) (by simpa using hge) (.inr ⟨_, _, e, rfl, heap_alloc_new C.w.drew _, p1, p2⟩)
          refine ⟨_, C', ?_, e2, e3, e4, e5⟩
          rw [g3, g4, e1]
          simp only [List.length_nil, Nat.zero_add, Option.map_none, Option.map_some]
          rw [hr]
      · rw [g4]
        by_cases hroom : es.length + new.length ≤ C.κ n
        · have hfit : es.length * ii.size + vs.length ≤ c.size := by rw [hvl, hiz, g6, ← Nat.add_mul]; exact Nat.mul_le_mul_right _ hroom
          have hr := append_room (P := P) t ty e ii ht' hii C.w tt b es.length (C.κ n) c g5 ad new.length cap vs (by rw [hvl, hiz]) (hmem ad rfl) hgood hroom hfit
          rw [hiz] at hr hfit
          have p1 : (splice c.toList (es.length * z) vs).toArray.size = C.κ n * z := by
            rw [List.size_toArray, splice_length c.toList (es.length * z) vs (by simpa using hfit)]; simpa using g6
          have p2 : ∀ k y, (flat (es ++ new))[k]? = some y → Vl C y ((splice c.toList (es.length * z) vs).toArray.getD k undef) := fun k y hy => by
            have e0 : (splice c.toList (es.length * z) vs).toArray.getD k undef = ((splice c.toList (es.length * z) vs)[k]?).getD undef := by simp
            rw [e0, splice_get c.toList (es.length * z) vs (by simpa using hfit)]
            rw [flat_append] at hy
            have hfl := flat_length g1
            rcases Nat.lt_or_ge k (es.length * z) with hk | hk
            · rw [if_neg (by omega)]
              rw [List.getElem?_append_left (by omega)] at hy
              simpa using g7 k y hy
            · rw [List.getElem?_append_right (by omega), hfl] at hy
              have hk2 := get_lt hy
              rw [flat_length hzn] at hk2
              rw [if_pos ⟨hk, by omega⟩]
              simpa [List.getD] using hvx _ y hy
          obtain ⟨C', e1, e2, e3, e4, e5⟩ := fin (C.w.setRow b (splice c.toList (es.length * z) vs).toArray) (some b) (C.κ n) rfl rfl rfl (by simp [World.setRow])
            (fun b' _ hne => setRow_other C.w b b' _ (fun hh => hne (by rw [g4, hh]))) (.inl g4.symm) hroom (.inr ⟨b, _, tt, rfl, setRow_heap' g5, p1, p2⟩)
          refine ⟨_, C', ?_, e2, e3, e4, e5⟩
          rw [e1]
          simp only [Option.map_some]
          rw [hr]
        · have hcl : (c.toList.take (es.length * z)).length = es.length * z := by
            have : es.length * z ≤ C.κ n * z := Nat.mul_le_mul_right z g2
            simp; omega
          have hr := run_append_grow (P := P) C.w t ty e ii zv ht' hii hzv ⟨b, 0, none⟩ es.length (C.κ n) (c.toList.take (es.length * z)) (by rw [hcl, hiz]) (fun j u hj => by
            have hjl := get_lt hj
            rw [hcl] at hjl
            rw [add_none, Nat.zero_add, cell_cells g5 (o := j) (by simp at hcl; omega)]
            rw [List.getElem?_take_of_lt hjl] at hj
            simp at hj; simp [hj]) ad new.length cap vs (by rw [hvl, hiz]) (hmem ad rfl) (by omega) (by omega) (growslice_fits (by omega) (by rw [hib]; exact hb))
          have hge := grownCap_ge C.w (es.length + new.length) (C.κ n) e
          have e7 : (c.toList.take (es.length * z)).toArray.size = es.length * z := by simpa using hcl
          have p1 : ((c.toList.take (es.length * z)).toArray ++ vs.toArray ++ Builtin.zeroCells zv.cells (grownCap C.w (es.length + new.length) (C.κ n) e - (es.length + new.length))).size = grownCap C.w (es.length + new.length) (C.κ n) e * z := by
            simp only [Array.size_append, e7, List.size_toArray, size_zeroCells, hzc, hvl, ← Nat.add_mul]
            congr 1; omega
          have p2 : ∀ k y, (flat (es ++ new))[k]? = some y → Vl C y (((c.toList.take (es.length * z)).toArray ++ vs.toArray ++ Builtin.zeroCells zv.cells (grownCap C.w (es.length + new.length) (C.κ n) e - (es.length + new.length))).getD k undef) := fun k y hy => by
            rw [flat_append] at hy
            have hfl := flat_length g1
            have hap : ∀ (A B Z : Array Value), (A ++ B ++ Z).getD k undef = if k < A.size then A.getD k undef else if k - A.size < B.size then B.getD (k - A.size) undef else Z.getD (k - A.size - B.size) undef := by
              intro A B Z
              simp only [Array.getD_eq_getD_getElem?, Array.getElem?_append, Array.size_append]
              by_cases h1 : k < A.size
              · simp only [h1, if_true, show k < A.size + B.size by omega]
              · by_cases h2 : k - A.size < B.size
                · simp only [h1, h2, if_true, if_false, show k < A.size + B.size by omega]
                · simp only [h1, h2, if_false, show ¬ k < A.size + B.size by omega, show k - A.size - B.size = k - (A.size + B.size) by omega]
            rw [hap, e7]
            rcases Nat.lt_or_ge k (es.length * z) with hk | hk
            · rw [if_pos hk]
              rw [List.getElem?_append_left (by omega)] at hy
              have := g7 k y hy
              have e8 : (c.toList.take (es.length * z)).toArray.getD k undef = c.getD k undef := by
                simp [List.getElem?_take_of_lt hk]
              rw [e8]; exact this
            · rw [if_neg (by omega)]
              rw [List.getElem?_append_right (by omega), hfl] at hy
              have hk2 := get_lt hy
              rw [flat_length hzn] at hk2
              rw [if_pos (by simp; omega)]
              simpa [List.getD] using hvx _ y hy
          obtain ⟨C', e1, e2, e3, e4, e5⟩ := fin (C.w.drew.alloc (.cells ((c.toList.take (es.length * z)).toArray ++ vs.toArray ++ Builtin.zeroCells zv.cells (grownCap C.w (es.length + new.length) (C.κ n) e - (es.length + new.length))) e))
            (some C.w.heap.size) (grownCap C.w (es.length + new.length) (C.κ n) e) rfl rfl rfl
            (by simp) (fun b hb1 _ => heap_alloc_old C.w.drew _ b hb1) (.inr ⟨_, rfl, Nat.le_refl _, by simp⟩) hge (.inr ⟨_, _, e, rfl, heap_alloc_new C.w.drew _, p1, p2⟩)
          refine ⟨_, C', ?_, e2, e3, e4, e5⟩
          rw [e1]
          simp only [Option.map_some]
          rw [hr]


theorem append_exec {t : TypeId} {s x : Operand} {ρ : Operand → Value} {oo : Oper} (ho : oo.op = .call { callee := .builtin .append, args := #[s, x], argTypes := #[t, t] }) (w : World) :
    (execOp ρ oo).run P w = ((Builtin.append_ #[t, t] oo.type #[ρ s, ρ x]).run P w).andThen fun v w => .ok (.value v) w := by
  simp only [execOp, ho, resolve, Sem.run_bind, Sem.run_pure, Result.andThen_ok, invoke, builtin]
  simp

theorem ok_append_slo {t e : TypeId} {s x : Operand} {n ver len z bytes : Nat} {es new : List AV} (ht : sliceElem P t = some e) (hz : tsize P e = some z) (hby : tbytes P e = some bytes) {zs : List Value} (hzero : tzero P e = some zs) (hzl : zs.length = z)
    (hs : ev F s = .slo n ver 0 len) (hn : H[n]? = some (.vec z ver es)) (hlen : len = es.length) (hnew : srcElems H z (ev F x) = some new) (hg : new.all (AV.goodPart H) = true)
    (hb : (es.length + new.length) * bytes ≤ 140737488355328) (h63 : es.length + new.length ≤ 9223372036854775807) :
    OpOk P (.call { callee := .builtin .append, args := #[s, x], argTypes := #[t, t] }) F H (.slo n (ver + 1) 0 (len + new.length)) (H.set n (.vec z (ver + 1) (es ++ new))) := by
  intro K C ρ oo ho hp hH hρ
  subst hH
  subst hlen
  obtain ⟨u, C', h1, h2, h3, h4, h5⟩ := append_core (P := P) hp (ty := oo.type) ht hz hby hzero hzl (hs ▸ hρ s) (hρ x) hn hnew hg hb h63
  exact ⟨_, _, C', by rw [append_exec ho, h1]; rfl, .inl rfl, h2, h3, h4, h5⟩

/-- A nil slice is an own row without a block. -/
theorem push_nil {K : Kon} {C : Ctx} (hp : Hp K C) {z : Nat} (hz : 0 < z) :
    ∃ C', C'.w = C.w ∧ Ext C C' ∧ Hp K C' ∧ Vl C' (.slo C.H.length 0 0 0) (.slice none 0 0) ∧ C'.H = C.H ++ [.vec z 0 []] := by
  let C' : Ctx := { C with H := C.H ++ [.vec z 0 []], β := fun j => if j = C.H.length then none else C.β j, κ := fun j => if j = C.H.length then 0 else C.κ j }
  have hown : ∀ b, C'.own b → C.own b := fun b ⟨i, hi, hb⟩ => by
    simp [C'] at hi hb
    exact ⟨i, by omega, hb.2⟩
  have e : Ext C C' :=
    { len := by simp [C'], lnt := fun _ h => h, pers := fun b hb hs => ⟨rfl, fun h => h.elim (fun h => hb (.inl h)) (fun h => hb (.inr (hown b h)))⟩
      var := fun i cs hi => by have hl := get_lt hi; exact ⟨⟨cs, by simpa [C', List.getElem?_append_left hl] using hi⟩, by simp [C', Nat.ne_of_lt hl]⟩
      mapo := fun i cs hi => by have hl := get_lt hi; exact ⟨⟨cs, by simpa [C', List.getElem?_append_left hl] using hi⟩, by simp [C', Nat.ne_of_lt hl]⟩
      loopo := fun i cs hi => by have hl := get_lt hi; exact ⟨⟨cs, by simpa [C', List.getElem?_append_left hl] using hi⟩, by simp [C', Nat.ne_of_lt hl]⟩
      vec := fun i z v' es' hl hh => by
        simp only [C', List.getElem?_append_left hl] at hh
        exact ⟨v', es', hh, Nat.le_refl _, fun _ => ⟨Nat.le_refl _, by simp [C', Nat.ne_of_lt hl], by simp [C', Nat.ne_of_lt hl]⟩⟩ }
  refine ⟨C', rfl, e, ?_, .slo (by simp [C']) (fun z' v0 es hes => by simp [C'] at hes; omega) (fun z' es hes => by simp [C'] at hes; simp [C', hes.2.symm]), rfl⟩
  exact
    { X := hp.X, xown := fun b hx ho => hp.xown b hx (hown b ho), xlt := hp.xlt, L := hp.L, lown := fun b hx ho => hp.lown b hx (hown b ho), llt := hp.llt
      inj := fun i j b hi hj hbi hbj => by
        simp [C'] at hi hj hbi hbj
        exact hp.inj i j b (by omega) (by omega) hbi.2 hbj.2
      lt := fun i b hi hb => by simp [C'] at hi hb; exact hp.lt i b (by omega) hb.2
      obj := fun i o hio => by
        rcases Nat.lt_or_ge i C.H.length with hl | hl
        · simp only [C', List.getElem?_append_left hl] at hio
          exact (hp.obj i o hio).mono e (by simp [C', Nat.ne_of_lt hl]) (by simp [C', Nat.ne_of_lt hl]) (fun b hb => rfl)
        · have hi := get_lt hio
          simp [C'] at hi
          have : i = C.H.length := by omega
          subst this
          simp [C'] at hio
          subst hio
          exact ⟨hz, by simp, by simp, .inl ⟨by simp [C'], by simp [C']⟩⟩
      ext := hp.ext.trans e, os := hp.os, tape := hp.tape, output := hp.output, size := hp.size, same := hp.same
      ownn := fun b hb => hp.ownn b (hown b hb), glob := fun g cs hg => (hp.glob g cs hg).mono e }

theorem srcElems_push {H G : Heap} {z : Nat} {a : AV} {es : List AV} (h : srcElems H z a = some es) : srcElems (H ++ G) z a = some es := by
  cases a with
  | slo i ver off len =>
    simp only [srcElems] at h ⊢
    split at h
    · rename_i z' v es' hes
      rw [List.getElem?_append_left (get_lt hes), hes]; exact h
    · cases h
  | raw v =>
    cases v with
    | slice a l c => cases a with
      | none => cases l <;> cases c <;> exact h
      | some a => exact h
    | _ => exact h
  | _ => exact h

theorem good_push {H G : Heap} {x : AV} (h : x.good H = true) : x.good (H ++ G) = true := by
  cases x with
  | slo i ver off len =>
    simp only [AV.good, AV.isCell, fresh, Bool.and_eq_true] at h ⊢
    refine ⟨h.1, ?_⟩
    have h3 := h.2
    split at h3
    · rename_i z v es hes
      rw [List.getElem?_append_left (get_lt hes), hes]; exact h3
    · cases h3
  | pel i ver j off =>
    simp only [AV.good, AV.isCell, fresh, Bool.and_eq_true] at h ⊢
    refine ⟨⟨trivial, ?_⟩, trivial⟩
    have h3 := h.1.2
    split at h3
    · rename_i z v es hes
      rw [List.getElem?_append_left (get_lt hes), hes]; exact h3
    · cases h3
  | _ => exact h

theorem goodPart_push {H G : Heap} {x : AV} (h : x.goodPart H = true) : x.goodPart (H ++ G) = true := by
  cases x with
  | agg cs =>
    simp only [AV.goodPart, List.all_eq_true] at h ⊢
    exact fun x hx => good_push (h x hx)
  | _ => exact good_push h

theorem ok_append_nil {t e : TypeId} {s x : Operand} {z bytes : Nat} {new : List AV} (ht : sliceElem P t = some e) (hz : tsize P e = some z) (hz0 : 0 < z) (hby : tbytes P e = some bytes) {zs : List Value} (hzero : tzero P e = some zs) (hzl : zs.length = z)
    (hs : ev F s = .raw (.slice none 0 0)) (hnew : srcElems H z (ev F x) = some new) (hg : new.all (AV.goodPart H) = true)
    (hb : new.length * bytes ≤ 140737488355328) (h63 : new.length ≤ 9223372036854775807) :
    OpOk P (.call { callee := .builtin .append, args := #[s, x], argTypes := #[t, t] }) F H (.slo H.length 1 0 new.length) (H ++ [.vec z 1 new]) := by
  intro K C ρ oo ho hp hH hρ
  subst hH
  obtain ⟨C1, e1, e2, e3, e4, e5⟩ := push_nil hp hz0
  have hss : ρ s = .slice none 0 0 := Vl.raw_inv (hs ▸ hρ s)
  have hnew' : srcElems C1.H z (ev F x) = some new := by rw [e5]; exact srcElems_push hnew
  have hg' : new.all (AV.goodPart C1.H) = true := by
    rw [e5, List.all_eq_true] at *
    exact fun x hx => goodPart_push (hg x hx)
  obtain ⟨u, C', h1, h2, h3, h4, h5⟩ := append_core (P := P) e3 (ty := oo.type) ht hz hby hzero hzl (es := []) (hss ▸ e4) ((hρ x).mono e2) (by rw [e5]; simp) hnew' hg' (by simpa using hb) (by simpa using h63)
  refine ⟨_, _, C', by rw [append_exec ho, ← e1, h1]; rfl, .inl rfl, e2.trans h2, h3, by simpa using h4, ?_⟩
  rw [h5, e5]
  simp

end

end Go.Ab
namespace Go.Ab
open Go

theorem foldl_set (off : Nat) : ∀ (l : List Value) (k : Nat) (cs : Array Value), off + k + l.length ≤ cs.size →
    (l.zipIdx k).foldl (fun cs (x : Value × Nat) => cs.setIfInBounds (off + x.2) x.1) cs = (splice cs.toList (off + k) l).toArray
  | [], k, cs, h => by simp [splice]
  | c :: l, k, cs, h => by
    simp only [List.zipIdx_cons, List.foldl_cons]
    simp only [List.length_cons] at h
    rw [foldl_set off l (k + 1) _ (by simp; omega)]
    congr 1
    apply List.ext_getElem?
    intro q
    rw [splice_get _ _ _ (by simp; omega), splice_get _ _ _ (by simp; omega)]
    simp only [Array.toList_setIfInBounds, List.length_cons]
    by_cases h1 : off + (k + 1) ≤ q ∧ q < off + (k + 1) + l.length
    · rw [if_pos h1, if_pos (by omega), show q - (off + k) = (q - (off + (k + 1))) + 1 by omega, List.getElem?_cons_succ]
    · rw [if_neg h1]
      by_cases h2 : q = off + k
      · subst h2
        rw [if_pos (by omega)]
        have : off + k < cs.toList.length := by simp; omega
        simp [List.getElem?_set_self this]
      · rw [if_neg (by omega), List.getElem?_set_ne (by omega)]

theorem fill_step (place : Nat → Option (Nat × Nat)) (cells : Array Value) (i off size : Nat) (v : Value) (rest : List (Nat × Value)) (hp : place i = some (off, size)) (hs : v.cells.size = size) (hl : off + size ≤ cells.size) :
    Instr.fill place cells ((i, v) :: rest) = Instr.fill place (splice cells.toList off v.cells.toList).toArray rest := by
  simp only [Instr.fill, hp]
  have hc : ¬ ((v.cells.size ≠ size || off + v.cells.size > cells.size) = true) := by simp [hs]; omega
  rw [if_neg hc]
  congr 1
  rw [← Array.foldl_toList, Array.toList_zipIdx]
  have := foldl_set off v.cells.toList 0 cells (by simp; omega)
  simpa using this

/-- Parts put into their places. -/
def afill (pl : Nat → Option (Nat × Nat)) (H : Heap) : List AV → List (Nat × AV) → Option (List AV)
  | cells, [] => some cells
  | cells, (i, v) :: rest => match pl i with
    | none => none
    | some (off, size) => if v.cells.length = size ∧ off + size ≤ cells.length ∧ v.goodPart H = true then afill pl H (splice cells off v.cells) rest else none

def CellsOk (C : Ctx) (cs : List AV) (c : Array Value) : Prop := c.size = cs.length ∧ ∀ k x, cs[k]? = some x → Vl C x (c.getD k undef)

theorem CellsOk.splice {C : Ctx} {cs xs : List AV} {c : Array Value} {us : List Value} {off : Nat} (h : CellsOk C cs c) (hl : us.length = xs.length) (hle : off + xs.length ≤ cs.length)
    (hx : ∀ k x, xs[k]? = some x → Vl C x (us.getD k undef)) : CellsOk C (splice cs off xs) (splice c.toList off us).toArray := by
  have hc := h.1
  refine ⟨by rw [List.size_toArray, splice_length c.toList off us (by simp; omega), splice_length cs off xs hle]; simpa using hc, fun k x hk => ?_⟩
  rw [splice_get cs off xs hle] at hk
  have e1 : (Go.Ab.splice c.toList off us).toArray.getD k undef = ((Go.Ab.splice c.toList off us)[k]?).getD undef := by simp
  rw [e1, splice_get c.toList off us (by simp; omega), hl]
  split
  · rename_i h1
    rw [if_pos h1] at hk
    simpa [List.getD] using hx _ x hk
  · rename_i h1
    rw [if_neg h1] at hk
    simpa using h.2 k x hk

theorem afill_ok {C : Ctx} {pl : Nat → Option (Nat × Nat)} {ρ : Operand → Value} {F : Frm} (hρ : ∀ x, Vl C (ev F x) (ρ x)) :
    ∀ (parts : List (Nat × Operand)) (cs : List AV) (c : Array Value) (out : List AV), CellsOk C cs c → afill pl C.H cs (parts.map fun p => (p.1, ev F p.2)) = some out →
    ∃ c', Instr.fill pl c (parts.map fun p => (p.1, ρ p.2)) = some c' ∧ CellsOk C out c'
  | [], cs, c, out, h, hf => by simp [afill] at hf; subst hf; exact ⟨c, rfl, h⟩
  | (i, x) :: rest, cs, c, out, h, hf => by
    simp only [List.map_cons, afill] at hf
    split at hf
    · cases hf
    · rename_i off size hpl
      split at hf
      · rename_i hc
        obtain ⟨h1, h2, h3⟩ := hc
        obtain ⟨g1, g2, g3⟩ := part_cells (hρ x) h3
        obtain ⟨c', e1, e2⟩ := afill_ok hρ rest _ (splice c.toList off (ρ x).cells.toList).toArray out (h.splice (by simpa using g1) (by omega) (fun k y hy => by
          have := g2 k y hy
          simpa [List.getD] using this)) hf
        refine ⟨c', ?_, e2⟩
        simp only [List.map_cons]
        rw [fill_step pl c i off size (ρ x) _ hpl (by omega) (by have := h.1; omega)]
        exact e1
      · cases hf

section
variable {P : Program} {F : Frm} {H : Heap}

def fieldPlaces (P : Program) (fs : List Field) : Option (List (Nat × Nat)) :=
  match fs with
  | [] => some []
  | f :: fs => match tsize P f.type, fieldPlaces P fs with
    | some n, some l => some ((f.offset, n) :: l)
    | _, _ => none

theorem fieldPlaces_run : ∀ (fs : List Field) (l : List (Nat × Nat)), fieldPlaces P fs = some l → ∀ w, (fs.mapM (fun f => do pure (f.offset, ← sizeOf f.type) : Field → Sem (Nat × Nat))).run P w = .ok l w
  | [], l, h, w => by simp [fieldPlaces] at h; subst h; simp
  | f :: fs, l, h, w => by
    simp only [fieldPlaces] at h
    split at h <;> simp at h
    rename_i n l' h1 h2
    subst h
    have := fieldPlaces_run fs l' h2 w
    simp only [List.mapM_cons, Sem.run_bind, tsize_run h1, Result.andThen_ok, Sem.run_pure, this]

def structPlaces (P : Program) (t : TypeId) : Option (List (Nat × Nat)) := match P.underlying t with
  | some (.struct fs) => fieldPlaces P fs.toList
  | _ => none

theorem cellsOk_raws {C : Ctx} (zs : List Value) : CellsOk C (zs.map .raw) zs.toArray := ⟨by simp, fun _ _ h => vl_raws h⟩

theorem ok_build {t : TypeId} {parts : Array (Nat × Operand)} {zs : List Value} {pl : List (Nat × Nat)} {out : List AV} (hz : tzero P t = some zs) (hpl : structPlaces P t = some pl)
    (hf : afill (pl[·]?) H (zs.map .raw) (parts.toList.map fun p => (p.1, ev F p.2)) = some out) : OpOk P (.build t parts) F H (.agg out) H := .still fun K C ρ oo ho hp hH hρ => by
  subst hH
  unfold structPlaces at hpl
  split at hpl
  · rename_i fs hfs
    obtain ⟨zv, h1, h2⟩ := tzero_run (P := P) hz C.w
    obtain ⟨c', e1, e2⟩ := afill_ok hρ parts.toList _ zs.toArray out (cellsOk_raws zs) hf
    refine ⟨.agg c', ?_, .agg e2.1 e2.2⟩
    have hm := fieldPlaces_run (P := P) fs.toList pl hpl C.w
    have hm' : (fs.mapM (fun f => do pure (f.offset, ← sizeOf f.type) : Field → Sem (Nat × Nat))).run P C.w = .ok pl.toArray C.w := by
      rw [Array.mapM_eq_mapM_toList, Sem.run_map, hm]; rfl
    have hfill : Instr.fill (fun i => pl.toArray[i]?) zv.cells (parts.map fun (i, x) => (i, ρ x)).toList = some c' := by
      rw [cells_list h2]
      simpa using e1
    simp only [execOp, ho, Instr.build, Sem.run_bind, h1, Result.andThen_ok, run_underlying hfs, hm', hfill, Sem.run_pure]
  · cases hpl

/-- The zero value of a type. -/
def zeroAV (P : Program) (t : TypeId) : Option AV := match tagg P t, tzero P t with
  | some true, some zs => some (.agg (zs.map .raw))
  | some false, some [z] => some (.raw z)
  | _, _ => none

theorem zeroAV_cells {t : TypeId} {x : AV} {zs : List Value} (h : zeroAV P t = some x) (hz : tzero P t = some zs) (hraw : ∀ z ∈ zs, z.oneCell' = true) : x.cells = zs.map .raw := by
  unfold zeroAV at h
  rw [hz] at h
  split at h
  · rename_i zs' _ he
    cases he; cases h; rfl
  · rename_i z _ he
    cases he; cases h
    rfl
  · cases h

theorem flat_replicate (n : Nat) (x : AV) (zs : List Value) (hx : x.cells = zs.map .raw) (h0 : 0 < zs.length) (k : Nat) (y : AV) (hk : (flat (List.replicate n x))[k]? = some y) : y = .raw (zs.getD (k % zs.length) undef) ∧ k < n * zs.length := by
  induction n generalizing k with
  | zero => simp [flat] at hk
  | succ n ih =>
    simp only [List.replicate_succ, flat, List.flatMap_cons] at hk
    have hl : x.cells.length = zs.length := by rw [hx]; simp
    rcases Nat.lt_or_ge k zs.length with h | h
    · rw [List.getElem?_append_left (by omega), hx] at hk
      simp [h] at hk
      refine ⟨?_, by rw [Nat.succ_mul]; omega⟩
      rw [← hk, Nat.mod_eq_of_lt h]
      simp [List.getD, h]
    · rw [List.getElem?_append_right (by omega), hl] at hk
      obtain ⟨h1, h2⟩ := ih (k - zs.length) hk
      refine ⟨?_, by rw [Nat.succ_mul]; omega⟩
      rw [h1, Nat.mod_eq_sub_mod h]

theorem ok_makeSlice {t e : TypeId} {l c : Operand} {kl kc : IntKind} {n m : Int} {z bytes : Nat} {zs : List Value} {x : AV} (ht : sliceElem P t = some e) (hz : tsize P e = some z) (hby : tbytes P e = some bytes)
    (hzero : tzero P e = some zs) (hzl : zs.length = z) (hz0 : 0 < z) (hx : zeroAV P e = some x) (hraw : ∀ z ∈ zs, z.oneCell' = true) (hl : ev F l = .raw (.int kl n)) (hc : ev F c = .raw (.int kc m)) (h0 : 0 ≤ n) (hnm : n ≤ m)
    (hb : (bytes : Int) * m ≤ 281474976710656) (h63 : m ≤ 9223372036854775807) :
    OpOk P (.makeSlice t l c) F H (.slo H.length 0 0 n.toNat) (H ++ [.vec z 0 (List.replicate n.toNat x)]) := by
  intro K C ρ oo ho hp hH hρ
  subst hH
  have h1 : ρ l = .int kl n := Vl.raw_inv (hl ▸ hρ l)
  have h2 : ρ c = .int kc m := Vl.raw_inv (hc ▸ hρ c)
  obtain ⟨ii, hii⟩ : ∃ ii, P.info? e = some ii := by
    unfold tsize at hz; cases h : P.info? e with
    | none => simp [h] at hz
    | some ii => exact ⟨ii, rfl⟩
  have hiz : ii.size = z := by simp [tsize, hii] at hz; exact hz
  have hib : ii.bytes = bytes := by simp [tbytes, hii] at hby; exact hby
  obtain ⟨zv, hzv⟩ : ∃ zv, ii.zero = some zv := by
    cases h : ii.zero with
    | none => simp [tzero, hii, h] at hzero
    | some zv => exact ⟨zv, rfl⟩
  have hzc : zv.cells = zs.toArray := by
    simp [tzero, hii, hzv] at hzero; rw [← hzero]
  have hr := run_make C.w t e ii zv (sliceElem_spec ht) hii hzv kl kc n m h0 hnm (by rw [hib]; exact hb) h63 (P := P)
  have hxc := zeroAV_cells hx hzero hraw
  have hcs : (madeCells zv.cells (m.toNat * ii.size)).size = m.toNat * z := by simp [madeCells, hiz]
  have := hp.push (C.w.alloc (.cells (madeCells zv.cells (m.toNat * ii.size)) e)) (.vec z 0 (List.replicate n.toNat x)) m.toNat rfl rfl rfl (by simp) (fun b hb => heap_alloc_old C.w _ b hb) _ rfl
    (fun ex => ⟨hz0, fun q hq => by rw [List.eq_of_mem_replicate hq, hxc]; simpa using hzl, by simp; omega, .inr ⟨C.w.heap.size, _, e, by simp, World.alloc_heap_new C.w _, by simpa using hcs, fun k y hk => by
      obtain ⟨g1, g2⟩ := flat_replicate n.toNat x zs hxc (by omega) k y hk
      rw [g1]
      have hkm : k < m.toNat * ii.size := by
        have : n.toNat * zs.length ≤ m.toNat * zs.length := Nat.mul_le_mul_right _ (by omega)
        rw [hiz, ← hzl]; omega
      have hmod : k % zs.length < zs.length := Nat.mod_lt _ (by omega)
      have : (madeCells zv.cells (m.toNat * ii.size)).getD k undef = zs.getD (k % zs.length) undef := by
        simp [madeCells, hkm, hzc, hmod, List.getD]
      rw [this]; exact .raw _⟩⟩)
  refine ⟨.value (.slice (some ⟨C.w.heap.size, 0, none⟩) n.toNat m.toNat), _, _, ?_, .inl rfl, this.1, this.2, ?_, rfl⟩
  · simp only [execOp, ho, h1, h2, Sem.run_bind, hr, Result.andThen_ok, Sem.run_pure]
  · refine .slo (by simp) (fun z' v0 es hes => by simp at hes; omega) (fun z' es hes => ?_)
    simp at hes
    obtain ⟨_, rfl⟩ := hes
    simp

end

end Go.Ab
namespace Go.Ab
open Go

section
variable {P : Program} {F : Frm} {H : Heap}

/-- A bound of a slice expression. -/
def bnd (F : Frm) : Option Operand → Option (Option Int)
  | none => some none
  | some x => match ev F x with
    | .raw (.int _ n) => some (some n)
    | _ => none

theorem bnd_run {C : Ctx} {ρ : Operand → Value} (hρ : ∀ x, Vl C (ev F x) (ρ x)) {o : Option Operand} {r : Option Int} (h : bnd F o = some r) :
    match o, r with
    | none, none => True
    | some x, some n => ∃ k, ρ x = .int k n
    | _, _ => False := by
  cases o with
  | none => simp [bnd] at h; subst h; trivial
  | some x =>
    simp only [bnd] at h
    split at h <;> simp at h
    rename_i k n hx
    subst h
    exact ⟨k, Vl.raw_inv (hx ▸ hρ x)⟩

theorem sliceBounds_run {ρ : Operand → Value} {C : Ctx} (hρ : ∀ x, Vl C (ev F x) (ρ x)) {lo hi : Option Operand} {rl rh : Option Int} (hl : bnd F lo = some rl) (hh : bnd F hi = some rh) (len cap : Nat) (hcap : len ≤ cap)
    (h1 : ∀ n, rh = some n → 0 ≤ n ∧ n ≤ cap) (h2 : 0 ≤ rl.getD 0 ∧ rl.getD 0 ≤ rh.getD len) (w : World) :
    (Instr.sliceBounds true len cap (lo.map ρ) (hi.map ρ) none).run P w = .ok ((rl.getD 0).toNat, (rh.getD len).toNat, cap) w := by
  have b1 := bnd_run hρ hl
  have b2 := bnd_run hρ hh
  cases hi with
  | none =>
    cases rh with
    | some n => exact b2.elim
    | none =>
      cases lo with
      | none => cases rl with
        | some n => exact b1.elim
        | none => simp [Instr.sliceBounds]
      | some x => cases rl with
        | none => exact b1.elim
        | some n =>
          obtain ⟨k, hk⟩ := b1
          simp at h2
          simp [Instr.sliceBounds, Instr.sliceBound, asIntOf, hk, h2]
  | some y =>
    cases rh with
    | none => exact b2.elim
    | some m =>
      obtain ⟨k2, hk2⟩ := b2
      have hm := h1 m rfl
      cases lo with
      | none => cases rl with
        | some n => exact b1.elim
        | none => simp [Instr.sliceBounds, Instr.sliceBound, asIntOf, hk2, hm]
      | some x => cases rl with
        | none => exact b1.elim
        | some n =>
          obtain ⟨k, hk⟩ := b1
          simp at h2
          have : n ≤ (m.toNat : Int) := by omega
          have h9 : ¬ max m 0 < n := by omega
          simp [h9, Instr.sliceBounds, Instr.sliceBound, asIntOf, hk, hk2, h2, hm, this]

theorem sliceAt_run {t e : TypeId} (ht : P.underlying t = some (.slice e)) {z : Nat} (hz : tsize P e = some z) (a : Option Addr) (len cap : Nat) (lo hi : Option Value) (l h m : Nat) (w : World)
    (hb : (Instr.sliceBounds true len cap lo hi none).run P w = .ok (l, h, m) w) :
    (Instr.sliceAt t (.slice a len cap) lo hi none).run P w = .ok (.slice (if m = l then a else a.map (·.add (l * z))) (h - l) (m - l)) w := by
  simp only [Instr.sliceAt, Sem.run_bind, run_underlying ht, Result.andThen_ok, Instr.slice, hb, tsize_run hz, Sem.run_pure]

theorem ok_slice_sl {t e : TypeId} {x : Operand} {lo hi : Option Operand} {rl rh : Option Int} {z : Nat} {full : Fl} {es : List AV} (ht : sliceElem P t = some e) (hz : tsize P e = some z) (hx : ev F x = .sl z full es)
    (hl : bnd F lo = some rl) (hh : bnd F hi = some rh) (h2 : 0 ≤ rl.getD 0 ∧ rl.getD 0 ≤ rh.getD es.length) (h3 : rh.getD es.length ≤ es.length) :
    OpOk P (.slice t x lo hi none) F H (.sl z full.cut ((es.take (rh.getD es.length).toNat).drop (rl.getD 0).toNat)) H := .still fun K C ρ oo ho hp hH hρ => by
  have hv := hx ▸ hρ x
  generalize hr : ρ x = r at hv
  cases hv with
  | sl g hz' hcap hfull hn hs ha hL hx' =>
    rename_i a cap
    have hb := sliceBounds_run (P := P) hρ hl hh es.length cap hcap (fun n hn => by subst hn; simp at h2 h3; omega) h2 C.w
    have hrun := sliceAt_run (P := P) (sliceElem_spec ht) hz a es.length cap _ _ _ _ _ C.w hb
    have hh0 : (rh.getD es.length).toNat ≤ es.length := by omega
    have hl0 : (rl.getD 0).toNat ≤ (rh.getD es.length).toNat := by omega
    generalize (rh.getD es.length).toNat = hi' at *
    generalize (rl.getD 0).toNat = lo' at *
    have hlen : ((es.take hi').drop lo').length = hi' - lo' := by simp; omega
    refine ⟨.slice (if cap = lo' then a else a.map (·.add (lo' * z))) (hi' - lo') (cap - lo'), by simp only [execOp, ho, hr, Sem.run_bind, Option.map_none, hrun, Result.andThen_ok, Sem.run_pure], ?_⟩
    rw [← hlen]
    have hzz : ∀ q ∈ (es.take hi').drop lo', q.cells.length = z := fun q hq => hs q (List.mem_of_mem_take (List.mem_of_mem_drop hq))
    refine .sl (fun k => g (lo' * z + k)) hz' (by omega) (by simp [Fl.cut]) (fun h0 => ?_) hzz (fun q hq hne => ?_) (fun hl q hq hne => ?_) (fun k y hy => ?_)
    · split at h0
      · have := hn h0; omega
      · cases a with
        | none => have := hn rfl; omega
        | some a => simp at h0
    · have hne' : es ≠ [] := fun h => hne (by subst h; simp)
      have hpos : 0 < ((es.take hi').drop lo').length := List.length_pos_iff.2 hne
      rw [if_neg (by omega)] at hq
      cases a with
      | none => simp at hq
      | some a =>
        obtain ⟨k1, k2, k3⟩ := ha a rfl hne'
        obtain ⟨b, o, sp⟩ := a
        simp only at k1 k2 k3; subst k1
        simp [add_none] at hq
        subst hq
        refine ⟨rfl, k2, fun k hk => ?_⟩
        simp only [Nat.add_assoc]
        refine k3 _ ?_
        have : lo' * z + ((es.take hi').drop lo').length * z ≤ es.length * z := by rw [← Nat.add_mul]; exact Nat.mul_le_mul_right z (by omega)
        omega
    · have hne' : es ≠ [] := fun h => hne (by subst h; simp)
      have hpos : 0 < ((es.take hi').drop lo').length := List.length_pos_iff.2 hne
      rw [if_neg (by omega)] at hq
      cases a with
      | none => simp at hq
      | some a =>
        have k2 := hL hl a rfl hne'
        obtain ⟨k1, _, _⟩ := ha a rfl hne'
        obtain ⟨b, o, sp⟩ := a
        simp only at k1 k2; subst k1
        simp [add_none] at hq
        subst hq
        exact k2
    · rw [flat_drop (fun q hq => hs q (List.mem_of_mem_take hq)), List.getElem?_drop, flat_take hs] at hy
      have hk : lo' * z + k < hi' * z := by have := get_lt hy; simp at this; omega
      rw [List.getElem?_take_of_lt hk] at hy
      exact hx' _ y hy

theorem ok_slice_slo {t e : TypeId} {x : Operand} {hi : Option Operand} {rh : Option Int} {z n ver len : Nat} {es : List AV} (ht : sliceElem P t = some e) (hz : tsize P e = some z) (hx : ev F x = .slo n ver 0 len) (hn : H[n]? = some (.vec z ver es))
    (hh : bnd F hi = some rh) (h2 : 0 ≤ rh.getD len) (h3 : rh.getD len ≤ es.length) :
    OpOk P (.slice t x none hi none) F H (.slo n ver 0 (rh.getD len).toNat) H := .still fun K C ρ oo ho hp hH hρ => by
  subst hH
  have hv := hx ▸ hρ x
  generalize hr : ρ x = r at hv
  cases hv with
  | slo hi' hv hhv =>
    obtain ⟨hl, rfl⟩ := hhv _ _ hn
    obtain ⟨g0, g1, g2, g3⟩ := hp.obj n _ hn
    have hb := sliceBounds_run (P := P) hρ (lo := none) (rl := none) rfl hh len (C.κ n) (by omega) (fun q hq => by subst hq; simp at h2 h3; omega) (by simpa using h2) C.w
    have hrun := sliceAt_run (P := P) (sliceElem_spec ht) hz ((C.β n).map fun b => ⟨b, 0 * z, none⟩) len (C.κ n - 0) _ _ _ _ _ C.w (by simpa using hb)
    simp only [Option.map_none, Option.getD_none, Int.toNat_zero, Nat.sub_zero] at hrun
    refine ⟨_, (by simp only [execOp, ho, hr, Sem.run_bind, Option.map_none, Nat.sub_zero, hrun, Result.andThen_ok]; rfl), .slo hi' hv (fun z' es' hes' => ?_)⟩
    rw [hn] at hes'; cases hes'
    refine ⟨by omega, ?_⟩
    cases C.β n <;> simp [add_none]

theorem ok_slice_slo_lo {t e : TypeId} {x lo : Operand} {hi : Option Operand} {kl : IntKind} {l : Int} {rh : Option Int} {z n ver len : Nat} {es : List AV} (ht : sliceElem P t = some e) (hz : tsize P e = some z) (hx : ev F x = .slo n ver 0 len) (hn : H[n]? = some (.vec z ver es))
    (hlo : ev F lo = .raw (.int kl l)) (hh : bnd F hi = some rh) (h0 : 0 ≤ l) (h2 : l < rh.getD len) (h3 : rh.getD len ≤ es.length) :
    OpOk P (.slice t x (some lo) hi none) F H (.slo n ver l.toNat ((rh.getD len).toNat - l.toNat)) H := .still fun K C ρ oo ho hp hH hρ => by
  subst hH
  have hv := hx ▸ hρ x
  generalize hr : ρ x = r at hv
  cases hv with
  | slo hi' hv hhv =>
    obtain ⟨hl, rfl⟩ := hhv _ _ hn
    obtain ⟨g0, g1, g2, g3⟩ := hp.obj n _ hn
    have hb := sliceBounds_run (P := P) hρ (lo := some lo) (rl := some l) (by simp [bnd, hlo]) hh len (C.κ n) (by omega) (fun q hq => by subst hq; simp at h2 h3; omega) (by simp; omega) C.w
    have hrun := sliceAt_run (P := P) (sliceElem_spec ht) hz ((C.β n).map fun b => ⟨b, 0 * z, none⟩) len (C.κ n - 0) _ _ _ _ _ C.w (by simpa using hb)
    simp only [Option.map_some, Option.getD_some, Nat.sub_zero] at hrun
    refine ⟨_, (by simp only [execOp, ho, hr, Sem.run_bind, Option.map_some, Option.map_none, Nat.sub_zero, hrun, Result.andThen_ok]; rfl), .slo hi' hv (fun z' es' hes' => ?_)⟩
    rw [hn] at hes'; cases hes'
    refine ⟨by omega, ?_⟩
    rw [if_neg (by omega)]
    cases C.β n <;> simp [add_none]

/-- A literal of elements: what stands where. -/
def litElems (P : Program) (H : Heap) (e : TypeId) (z : Nat) : List AV → List (Nat × AV) → Option (List AV)
  | es, [] => some es
  | es, (i, v) :: rest => if i < es.length ∧ v.cells.length = z ∧ v.goodPart H = true then litElems P H e z (es.set i v) rest else none

theorem flat_set {z : Nat} {es : List AV} (hz : ∀ e ∈ es, e.cells.length = z) {i : Nat} {v : AV} (hi : i < es.length) (hv : v.cells.length = z) : flat (es.set i v) = splice (flat es) (i * z) v.cells := by
  apply List.ext_getElem?
  intro q
  have hle : i * z + v.cells.length ≤ (flat es).length := by
    rw [flat_length hz, hv, ← Nat.succ_mul]; exact Nat.mul_le_mul_right z hi
  rw [splice_get _ _ _ hle]
  have he := List.getElem?_eq_getElem hi
  have := flat_upd es i es[i] v 0 v.cells hz he (by omega) (fun k => by
    split
    · rfl
    · rename_i h
      have h1 : v.cells.length ≤ k := by omega
      rw [List.getElem?_eq_none h1, List.getElem?_eq_none (by rw [hz es[i] (List.getElem_mem _)]; omega)]) q
  simpa using this

theorem litElems_ok {C : Ctx} {e : TypeId} {z : Nat} {ρ : Operand → Value} (hρ : ∀ x, Vl C (ev F x) (ρ x)) :
    ∀ (parts : List (Nat × Operand)) (es : List AV) (c : Array Value) (out : List AV), (∀ e ∈ es, e.cells.length = z) → CellsOk C (flat es) c → litElems P C.H e z es (parts.map fun p => (p.1, ev F p.2)) = some out →
    ∃ c', Instr.fill (fun i => some (i * z, z)) c (parts.map fun p => (p.1, ρ p.2)) = some c' ∧ CellsOk C (flat out) c' ∧ (∀ e ∈ out, e.cells.length = z) ∧ out.length = es.length
  | [], es, c, out, hz, h, hf => by simp [litElems] at hf; subst hf; exact ⟨c, rfl, h, hz, rfl⟩
  | (i, x) :: rest, es, c, out, hz, h, hf => by
    simp only [List.map_cons, litElems] at hf
    split at hf
    · rename_i hc
      obtain ⟨h1, h2, h3⟩ := hc
      obtain ⟨g1, g2, g3⟩ := part_cells (hρ x) h3
      have hle : i * z + (ev F x).cells.length ≤ (flat es).length := by
        rw [flat_length hz, h2, ← Nat.succ_mul]; exact Nat.mul_le_mul_right z h1
      obtain ⟨c', e1, e2, e3, e4⟩ := litElems_ok hρ rest (es.set i (ev F x)) (splice c.toList (i * z) (ρ x).cells.toList).toArray out (fun q hq => by
        rcases List.mem_or_eq_of_mem_set hq with hq | rfl
        · exact hz q hq
        · exact h2) (by rw [flat_set hz h1 h2]; exact h.splice (by simpa using g1) hle (fun k y hy => by
          have := g2 k y hy
          simpa [List.getD] using this)) hf
      refine ⟨c', ?_, e2, e3, by simpa using e4⟩
      simp only [List.map_cons]
      rw [fill_step _ c i (i * z) z (ρ x) _ rfl (by omega) (by have := h.1; omega)]
      exact e1
    · cases hf

theorem cellsOk_zero {C : Ctx} {n z : Nat} {x : AV} {zs : List Value} (hxc : x.cells = zs.map .raw) (hzl : zs.length = z) (hz0 : 0 < z) : CellsOk C (flat (List.replicate n x)) ((Array.range (n * z)).map (zs.toArray[· % zs.toArray.size]!)) := by
  have hl : ∀ e ∈ List.replicate n x, e.cells.length = z := fun q hq => by rw [List.eq_of_mem_replicate hq, hxc]; simpa using hzl
  refine ⟨by rw [flat_length hl]; simp, fun k y hk => ?_⟩
  obtain ⟨g1, g2⟩ := flat_replicate n x zs hxc (by omega) k y hk
  rw [g1]
  have hmod : k % zs.length < zs.length := Nat.mod_lt _ (by omega)
  have : ((Array.range (n * z)).map (zs.toArray[· % zs.toArray.size]!)).getD k undef = zs.getD (k % zs.length) undef := by
    rw [hzl] at g2
    simp [g2, hmod, List.getD]
  rw [this]; exact .raw _

theorem buildSlice_run {t e : TypeId} {len z : Nat} {parts : Array (Nat × Value)} (ht : P.underlying t = some (.slice e)) (hz : tsize P e = some z) {zs : List Value} (hzero : tzero P e = some zs) (hb : len * z ≤ 16777216) {c : Array Value}
    (hf : Instr.fill (fun i => some (i * z, z)) ((Array.range (len * z)).map (zs.toArray[· % zs.toArray.size]!)) parts.toList = some c) (w : World) :
    (Instr.buildSlice t len parts).run P w = .ok (.slice (some ⟨w.heap.size, 0, none⟩) len len) (w.alloc (.cells c e)) := by
  obtain ⟨zv, h1, h2⟩ := tzero_run (P := P) hzero w
  have hnb : ¬ (len * z > 2 ^ 24) := by omega
  simp only [Instr.buildSlice, Sem.run_bind, run_underlying ht, Result.andThen_ok, tsize_run hz, hnb, if_false, Sem.run_pure]
  by_cases h0 : len * z = 0
  · rw [h0] at hf
    simp only [h0, if_true, Sem.run_pure, Result.andThen_ok]
    have : (Array.range 0).map ((#[] : Array Value)[· % (#[] : Array Value).size]!) = (Array.range 0).map (zs.toArray[· % zs.toArray.size]!) := by simp
    simp only [this, hf, Sem.run_bind, newRow, Sem.run_pure, run_newObj, Result.andThen_ok]
    rfl
  · simp only [h0, if_false, Sem.run_bind, h1, Result.andThen_ok, Sem.run_pure, cells_list h2, hf, newRow, run_newObj]
    rfl

theorem ok_buildSlice {t e : TypeId} {len z : Nat} {parts : Array (Nat × Operand)} {zs : List Value} {x : AV} {es : List AV} (ht : sliceElem P t = some e) (hz : tsize P e = some z) (hzero : tzero P e = some zs) (hzl : zs.length = z) (hz0 : 0 < z)
    (hx : zeroAV P e = some x) (hraw : ∀ z ∈ zs, z.oneCell' = true) (hb : len * z ≤ 16777216) (hlit : litElems P H e z (List.replicate len x) (parts.toList.map fun p => (p.1, ev F p.2)) = some es) :
    OpOk P (.buildSlice t len parts) F H (.sl z true es) H := by
  intro K C ρ oo ho hp hH hρ
  subst hH
  have hxc := zeroAV_cells hx hzero hraw
  obtain ⟨c, e1, e2, e3, e4⟩ := litElems_ok (P := P) hρ parts.toList (List.replicate len x) _ es (fun q hq => by rw [List.eq_of_mem_replicate hq, hxc]; simpa using hzl) (cellsOk_zero hxc hzl hz0) hlit
  simp at e4
  have hr := buildSlice_run (P := P) (parts := parts.map fun (i, x) => (i, ρ x)) (len := len) (sliceElem_spec ht) hz hzero hb (c := c) (by simpa using e1) C.w
  have hw := hp.world (C.w.alloc (.cells c e)) rfl rfl rfl (by simp) (fun b hb => heap_alloc_old C.w _ b hb)
  refine ⟨.value (.slice (some ⟨C.w.heap.size, 0, none⟩) len len), _, _, by simp only [execOp, ho, Sem.run_bind, hr, Result.andThen_ok, Sem.run_pure], .inl rfl, hw.1, hw.2, ?_, rfl⟩
  rw [← e4]
  have hnew := World.alloc_heap_new C.w (.cells c e)
  refine .sl (fun k => c.getD k undef) hz0 (Nat.le_refl _) (fun _ => rfl) (by simp) e3 (fun a ha hne => ?_) (fun _ a ha hne hl => ?_) (fun k y hy => (e2.2 k y hy).mono hw.1)
  · cases ha
    refine ⟨rfl, fun hbad => ?_, fun k hk => ?_⟩
    · rcases hbad with h | ⟨i, hi, h⟩
      · have h8 : C.w.heap.size < K.C0.w.heap.size := hp.xlt _ h
        have := hp.size; omega
      · have h8 : C.w.heap.size < C.w.heap.size := hp.lt i _ hi h
        omega
    · rw [Nat.zero_add]
      exact cell_cells hnew (o := k) (by rw [e2.1, flat_length e3]; exact hk)
  · cases ha
    have h8 : C.w.heap.size < K.C0.w.heap.size := hp.llt _ hl
    have := hp.size; omega

theorem ok_buildSlice_own {t e : TypeId} {len z : Nat} {parts : Array (Nat × Operand)} {zs : List Value} {x : AV} {es : List AV} (ht : sliceElem P t = some e) (hz : tsize P e = some z) (hzero : tzero P e = some zs) (hzl : zs.length = z) (hz0 : 0 < z)
    (hx : zeroAV P e = some x) (hraw : ∀ z ∈ zs, z.oneCell' = true) (hb : len * z ≤ 16777216) (hlit : litElems P H e z (List.replicate len x) (parts.toList.map fun p => (p.1, ev F p.2)) = some es) :
    OpOk P (.buildSlice t len parts) F H (.slo H.length 0 0 len) (H ++ [.vec z 0 es]) := by
  intro K C ρ oo ho hp hH hρ
  subst hH
  have hxc := zeroAV_cells hx hzero hraw
  obtain ⟨c, e1, e2, e3, e4⟩ := litElems_ok (P := P) hρ parts.toList (List.replicate len x) _ es (fun q hq => by rw [List.eq_of_mem_replicate hq, hxc]; simpa using hzl) (cellsOk_zero hxc hzl hz0) hlit
  simp at e4
  have hr := buildSlice_run (P := P) (parts := parts.map fun (i, x) => (i, ρ x)) (len := len) (sliceElem_spec ht) hz hzero hb (c := c) (by simpa using e1) C.w
  have := hp.push (C.w.alloc (.cells c e)) (.vec z 0 es) len rfl rfl rfl (by simp) (fun b hb => heap_alloc_old C.w _ b hb) _ rfl
    (fun ex => ⟨hz0, e3, by simp [e4], .inr ⟨C.w.heap.size, c, e, by simp, World.alloc_heap_new C.w _, by rw [e2.1, flat_length e3]; simp [e4], fun k y hy => (e2.2 k y hy).mono ex⟩⟩)
  refine ⟨.value (.slice (some ⟨C.w.heap.size, 0, none⟩) len len), _, _, by simp only [execOp, ho, Sem.run_bind, hr, Result.andThen_ok, Sem.run_pure], .inl rfl, this.1, this.2, ?_, rfl⟩
  refine .slo (by simp) (fun z' v0 es' hes => by simp at hes; omega) (fun z' es' hes => ?_)
  simp at hes
  obtain ⟨_, rfl⟩ := hes
  simp [e4]

/-- min, max of two whole numbers. -/
def rawMM (b : Builtin) (a c : Value) : Option Value :=
  match b, a, c with
  | .min, .int k x, .int k' y => if k = k' then some (.int k (if y < x then y else x)) else none
  | .max, .int k x, .int k' y => if k = k' then some (.int k (if x < y then y else x)) else none
  | _, _, _ => none

end

end Go.Ab
namespace Go.Ab
open Go

def put (F : Frm) (d : Option Tmp) (v : AV) : Frm := match d with | some d => (d, v) :: F | none => F

/-- Is the operation wanted? -/
def gd (ops : Array Oper) (F : Frm) : Option (Nat × Bool) → Option Bool
  | none => some true
  | some (j, want) => match (ops[j]?).bind (·.dst) with
    | some t => match ev F (.tmp t) with
      | .raw (.bool b) => some (b == want)
      | .raw (.tuple _) => some false
      | _ => none
    | none => none

theorem gd_ok {ops : Array Oper} {F : Frm} {C : Ctx} {a : Act} (hf : FrOk C F a.tmps) {o : Oper} {w : Bool} (h : gd ops F o.guard = some w) : Region.wanted o (yielded ops a.tmps) = w := by
  unfold Region.wanted
  cases hg : o.guard with
  | none => rw [hg] at h; simp [gd] at h; simp [h]
  | some jw =>
    obtain ⟨j, want⟩ := jw
    rw [hg] at h
    simp only [gd] at h
    split at h
    · rename_i t ht
      have hv := ev_ok (a := a) hf (.tmp t)
      simp only [Act.eval] at hv
      split at h <;> simp at h
      · rename_i b hb
        rw [hb] at hv
        have := Vl.raw_inv hv
        subst h
        have ht2 : a.tmps[t]? = some (.bool b) := by
          cases hq : a.tmps[t]? with
          | none => simp [hq] at this; cases this
          | some u => simp [hq] at this; rw [this]
        simp only [yielded, ht, Option.bind_some, ht2]
        cases b <;> cases want <;> rfl
      · rename_i vs hb
        rw [hb] at hv
        have := Vl.raw_inv hv
        subst h
        have : yielded ops a.tmps j = none := by
          simp only [yielded, ht, Option.bind_some]
          cases hq : a.tmps[t]? with
          | none => rfl
          | some u => simp [hq] at this; rw [this]
        show (yielded ops a.tmps j == some want) = false
        rw [this]; rfl
    · cases h

def callable (P : Program) (f : FuncId) : Bool := match P.funcs[f]? with
  | some fn => fn.name != "runtime.NumGoroutine" && fn.body.isSome
  | none => false

theorem callable_run {P : Program} {f : FuncId} (h : callable P f = true) (args : Array Value) (w : World) : (callFunc f args).run P w = .ok (.enter f args) w := by
  unfold callable at h
  split at h
  · rename_i fn hf
    simp only [Bool.and_eq_true, bne_iff_ne, ne_eq] at h
    have hb : fn.body ≠ none := fun hq => by rw [hq] at h; simp at h
    simp [callFunc, hf, h.1, hb]
  · cases h

/-- What a round of a range over a function leaves. -/
def roundQ (i : Nat) (K' : AV → Heap → Prop) : Exit → Frm → Heap → Prop
  | .normal, _, H => ∃ l, H[i]? = some (.loopo l) ∧ K' (.raw (.bool true)) (H.set i (.loopo { l with state := .ready, pending := none }))
  | .ret, _, H => ∃ l, H[i]? = some (.loopo l) ∧ K' (.raw (.bool false)) (H.set i (.loopo { l with state := .done, pending := some .ret }))
  | .exit id, _, H => ∃ l, H[i]? = some (.loopo l) ∧ K' (.raw (.bool false)) (H.set i (.loopo { l with state := .done, pending := some (.exit id) }))
  | _, _, _ => False

/-- yield's arguments in the loop's parameters. -/
def putAll (F : Frm) : List Tmp → List AV → Frm
  | p :: ps, x :: xs => putAll ((p, x) :: F) ps xs
  | _, _ => F

/-- An operation, told over data, where some globals are known. -/
def OpG (P : Program) (G : List (Nat × List Value)) (o : Op) (F : Frm) (H : Heap) (v : AV) (H' : Heap) : Prop :=
  ∀ (K : Kon) (C : Ctx) (ρ : Operand → Value) (oo : Oper), K.G = G → oo.op = o → Hp K C → C.H = H → (∀ x, Vl C (ev F x) (ρ x)) →
    ∃ n u C', (execOp ρ oo).run P C.w = .ok n C'.w ∧ (n = .value u ∨ (n = .skip ∧ u = undef)) ∧ Ext C C' ∧ Hp K C' ∧ Vl C' v u ∧ C'.H = H'

theorem OpOk.g {P : Program} {G : List (Nat × List Value)} {o : Op} {F : Frm} {H H' : Heap} {v : AV} (h : OpOk P o F H v H') : OpG P G o F H v H' := fun K C ρ oo _ => h K C ρ oo

inductive StepP (E : Env) (o : Oper) (F : Frm) (H : Heap) (K' : AV → Heap → Prop) : Prop
  | op (v : AV) (H' : Heap) (h : OpG E.P E.G o.op F H v H') (k : K' v H')
  | call (g : Operand) (args : Array Operand) (tys : Array TypeId) (f : FuncId) (first caps : List AV) (R : AV → Heap → Prop) (ho : o.op = .call { callee := .value g, args := args, argTypes := tys })
      (hg : ev F g = .fn f first caps) (hc : callable E.P f = true) (hr : CallS E.P E.G f (first ++ args.toList.map (ev F) ++ caps) H R) (k : ∀ r H', R r H' → K' r H')
  | yield (g : Operand) (args : Array Operand) (tys : Array TypeId) (i : Nat) (l : LoopA) (ho : o.op = .call { callee := .value g, args := args, argTypes := tys })
      (hg : ev F g = .yl i) (hi : H[i]? = some (.loopo l)) (hs : l.state = .ready) (hsz : args.size = l.params.size) (hp : l.params.toList.all (· < l.N) = true)
      (h : AWp ⟨E.P, E.G, H.length, l.N, true⟩ l.assign (thenQ (fun F2 H2 => ∃ l2, H2[i]? = some (.loopo l2) ∧ l2.state = .ready ∧ l2.body = l.body ∧
        AWp ⟨E.P, E.G, H.length, l.N, true⟩ l.body (roundQ i K') F2 (H2.set i (.loopo { l2 with state := .busy }))) (fun _ _ _ => False)) (putAll l.F l.params.toList (args.toList.map (ev F))) H)

/-- The operations of a region, one after the other. -/
def AOps (E : Env) (ops : Array Oper) (Q : Frm → Heap → Prop) : List Oper → Frm → Heap → Prop
  | [], F, H => Q F H
  | o :: rest, F, H => ∃ w, gd ops F o.guard = some w ∧ (w = true → StepP E o F H (fun v H' => AOps E ops Q rest (put F o.dst v) H')) ∧ (w = false → AOps E ops Q rest (put F o.dst (.raw undef)) H)

def dstOk (N : Nat) (ops : List Oper) : Bool := ops.all fun o => match o.dst with | some d => d < N | none => true

def noDefer : Op → Bool
  | .defer _ => false
  | _ => true

theorem St.put {K : Kon} {C C' : Ctx} {N : Nat} {F : Frm} {a : Act} (h : St K C N F a) (e : Ext C C') (hp : Hp K C') {d : Option Tmp} (hd : ∀ x, d = some x → x < N) {v : AV} {u : Value} (hv : Vl C' v u) :
    St K C' N (put F d v) (a.put d u) where
  hp := hp
  size := by cases d <;> simp [Act.put, h.size]
  fr := by
    cases d with
    | none => exact h.fr.mono e
    | some d =>
      intro k x hx
      have hdN := hd d rfl
      simp only [Go.Ab.put, List.lookup_cons] at hx
      by_cases hk : k = d
      · subst hk
        simp at hx; subst hx
        have : ((a.put (some k) u).tmps).getD k undef = u := by simp [Act.put, h.size, hdN]
        rw [this]; exact hv
      · have hk' : (k == d) = false := by simpa using hk
        simp only [hk'] at hx
        have : ((a.put (some d) u).tmps).getD k undef = a.tmps.getD k undef := by simp [Act.put, Array.getElem?_setIfInBounds_ne (Ne.symm hk)]
        rw [this]; exact (h.fr k x hx).mono e
  marks := by cases d <;> exact h.marks.mono e

theorem callsIn_rnd {rb : Option Nat} {n : Nat} {P : Program} {f : FuncId} {args : Array Value} {w : World} {R : Ending → World → Prop} (h : CallsIn Fence.wide n P f args w R) : CallsIn (rnd rb) n P f args w R := h

theorem args_ok {C : Ctx} {F : Frm} {ρ : Operand → Value} (hρ : ∀ x, Vl C (ev F x) (ρ x)) {first caps : List AV} {fv cv : Array Value} (args : Array Operand)
    (h1 : fv.size = first.length) (h2 : cv.size = caps.length) (hf : ∀ k x, first[k]? = some x → Vl C x (fv.getD k undef)) (hc : ∀ k x, caps[k]? = some x → Vl C x (cv.getD k undef)) :
    ArgsOk C (first ++ args.toList.map (ev F) ++ caps) (fv ++ args.map ρ ++ cv) := by
  refine ⟨by simp; omega, fun k x hx => ?_⟩
  rcases Nat.lt_or_ge k first.length with hk | hk
  · rw [List.append_assoc, List.getElem?_append_left hk] at hx
    have e : (fv ++ args.map ρ ++ cv).getD k undef = fv.getD k undef := by
      simp [Array.append_assoc, Array.getElem?_append_left (show k < fv.size by omega)]
    rw [e]; exact hf k x hx
  · rcases Nat.lt_or_ge k (first.length + args.size) with hk2 | hk2
    · rw [List.getElem?_append_left (by simp; omega), List.getElem?_append_right hk] at hx
      simp only [List.getElem?_map, Option.map_eq_some_iff, Array.getElem?_toList] at hx
      obtain ⟨y, hy, rfl⟩ := hx
      have hl : k - first.length < args.size := by omega
      have hy' : args[k - first.length] = y := by rw [Array.getElem?_eq_getElem hl] at hy; exact Option.some.inj hy
      have e : (fv ++ args.map ρ ++ cv).getD k undef = ρ y := by
        rw [Array.getD_eq_getD_getElem?, Array.getElem?_append_left (by simp; omega), Array.getElem?_append_right (by omega)]
        simp [h1, hl, hy']
      rw [e]; exact hρ y
    · rw [List.getElem?_append_right (by simp; omega)] at hx
      have e : (fv ++ args.map ρ ++ cv).getD k undef = cv.getD (k - (first.length + args.size)) undef := by
        rw [Array.getD_eq_getD_getElem?, Array.getElem?_append_right (by simp; omega)]
        simp [h1]
      rw [e]; exact hc _ x (by simpa using hx)

theorem putAll_ok {C : Ctx} {N : Nat} : ∀ (ps : List Tmp) (xs : List AV) (us : List Value) (F : Frm) (t : Array Value), FrOk C F t → t.size = N → (∀ p ∈ ps, p < N) → us.length = xs.length → (∀ k x, xs[k]? = some x → Vl C x (us.getD k undef)) →
    FrOk C (putAll F ps xs) ((ps.zip us).foldl (fun t (x : Tmp × Value) => t.setIfInBounds x.1 x.2) t) ∧ ((ps.zip us).foldl (fun t (x : Tmp × Value) => t.setIfInBounds x.1 x.2) t).size = N
  | [], xs, us, F, t, hf, hs, _, _, _ => by simpa [putAll] using ⟨hf, hs⟩
  | p :: ps, [], us, F, t, hf, hs, _, hl, _ => by
    have : us = [] := List.length_eq_zero_iff.1 (by simpa using hl)
    subst this
    simpa [putAll] using ⟨hf, hs⟩
  | p :: ps, x :: xs, [], F, t, hf, hs, _, hl, _ => by simp at hl
  | p :: ps, x :: xs, u :: us, F, t, hf, hs, hp, hl, hx => by
    simp only [putAll, List.zip_cons_cons, List.foldl_cons]
    have hpN := hp p (by simp)
    refine putAll_ok ps xs us ((p, x) :: F) (t.setIfInBounds p u) (fun k y hy => ?_) (by simpa using hs) (fun q hq => hp q (by simp [hq])) (by simpa using hl) (fun k y hy => by simpa using hx (k + 1) y (by simpa using hy))
    simp only [List.lookup_cons] at hy
    by_cases hk : k = p
    · subst hk
      simp at hy; subst hy
      have := hx 0 x rfl
      simpa [hs, hpN] using this
    · have hk' : (k == p) = false := by simpa using hk
      simp only [hk'] at hy
      have : (t.setIfInBounds p u).getD k undef = t.getD k undef := by simp [Array.getElem?_setIfInBounds_ne (Ne.symm hk)]
      rw [this]; exact hf k y hy

/-- The record of a loop turns. -/
theorem loop_upd {K : Kon} {C : Ctx} (hp : Hp K C) {i b : Nat} {l : LoopA} {r : Loop} (hi : C.H[i]? = some (.loopo l)) (hb : C.β i = some b) (hr : C.w.heap[b]? = some (.loop r)) (st : LoopState) (pe : Option Code) :
    ∃ C', C'.w = C.w.putObj b (.loop { r with state := st, pending := pe }) ∧ Ext C C' ∧ Hp K C' ∧ C'.H = C.H.set i (.loopo { l with state := st, pending := pe }) := by
  have hil := get_lt hi
  obtain ⟨b', r', g1, g2, g3, g4, g5, g6, g7, g8, g9⟩ := hp.obj i _ hi
  rw [hb] at g1; cases g1
  rw [hr] at g2; cases g2
  have := hp.upd (C.w.putObj b (.loop { r with state := st, pending := pe })) i hil (.loopo { l with state := st, pending := pe }) (C.β i) (C.κ i) rfl rfl rfl (by simp)
    (fun b' _ hne => World.putObj_heap_other (fun hh => hne (by rw [hb, hh]))) (.inl rfl) _ rfl (by rw [hi])
    (fun ex => ⟨b, { r with state := st, pending := pe }, by simp [hb], World.putObj_heap_same (heap_lt hr), rfl, rfl, g5, g6, g7, g8, g9.mono ex⟩)
  exact ⟨_, rfl, this.1, this.2, rfl⟩

theorem step_ok {E : Env} {o : Oper} {F : Frm} {H : Heap} {K' : AV → Heap → Prop} (h : StepP E o F H K') (hnd : noDefer o.op = true) (hd : ∀ x, o.dst = some x → x < E.N)
    {K : Kon} {C : Ctx} {a : Act} (hG : K.G = E.G) (hst : St K C E.N F a) (hH : C.H = H) (Q : Exit → Act → World → Prop) :
    o.wpIn (rnd K.rb) 0 E.P a C.w (fun a' w' => ∃ v C', C'.w = w' ∧ St K C' E.N (put F o.dst v) a' ∧ K' v C'.H) Q := by
  refine ⟨fun _ _ => trivial, ?_⟩
  have hsem : o.semAt (rnd K.rb).round a.eval = execOp a.eval o := Oper.semAt_eq _ _ _ (fun c hc => by rw [hc] at hnd; cases hnd)
  rw [hsem]
  cases h with
  | op v H' h k =>
    obtain ⟨n, u, C', h1, h2, h3, h4, h5, h6⟩ := h K C a.eval o hG rfl hst.hp hH (ev_ok hst.fr)
    rw [h1]
    rcases h2 with rfl | ⟨rfl, rfl⟩
    · exact ⟨v, C', rfl, hst.put h3 h4 hd h5, h6 ▸ k⟩
    · exact ⟨v, C', rfl, hst.put h3 h4 hd h5, h6 ▸ k⟩
  | call g args tys f first caps R ho hg hc hr k =>
    have hv := hg ▸ ev_ok hst.fr g
    generalize hgv : a.eval g = gv at hv
    cases hv with
    | fn h1 h2 hf hcp =>
      rename_i fv cv
      have hrun : (execOp a.eval o).run E.P C.w = .ok (.enter f (fv ++ args.map a.eval ++ cv)) C.w := by
        simp only [execOp, ho, resolve, hgv, Deferred.ofValue, Sem.run_bind, Sem.run_pure, Result.andThen_ok, invoke, callable_run hc]
      rw [hrun]
      refine ⟨fun h => by simp [rnd, Fence.wide] at h, ?_⟩
      have := hr K C _ hG hH hst.hp (args_ok (ev_ok hst.fr) args h1 h2 hf hcp)
      refine callsIn_rnd (this.mono ?_)
      rintro e w' ⟨r, u, C', rfl, rfl, g1, g2, g3, g4⟩
      exact ⟨r, C', rfl, hst.put g1 g2 hd g3, k r _ g4⟩
  | yield g args tys i l ho hg hi hs hsz hpar h =>
    have hv := hg ▸ ev_ok hst.fr g
    generalize hgv : a.eval g = gv at hv
    subst hH
    cases hv with
    | yl hh hb =>
      rename_i b
      obtain ⟨b', r, g1, g2, g3, g4, g5, g6, g7, g8, g9⟩ := hst.hp.obj i _ hi
      rw [hb] at g1; cases g1
      have hasz : (args.map a.eval).size = r.params.size := by simp [g5, hsz]
      have hrun : (execOp a.eval o).run E.P C.w = .ok (.round b r.fn ((r.params.zip (args.map a.eval)).foldl (fun tmps (t, a) => tmps.setIfInBounds t a) r.tmps) r.assign r.body) C.w := by
        simp only [execOp, ho, resolve, hgv, Deferred.ofValue, Sem.run_bind, Sem.run_pure, Result.andThen_ok, invoke]
        rw [show (#[] ++ args.map a.eval : Array Value) = args.map a.eval by simp]
        exact run_yield g2 hasz
      rw [hrun]
      refine ⟨fun h => by simp [rnd, Fence.wide] at h, ?_⟩
      -- the round's own state
      obtain ⟨q1, q2⟩ := putAll_ok (C := C) (N := l.N) l.params.toList (args.toList.map (ev F)) (args.toList.map a.eval) l.F r.tmps g9 g8 (fun p hp => by simpa using List.all_eq_true.1 hpar p hp) (by simp) (fun k x hx => by
        simp only [List.getElem?_map, Option.map_eq_some_iff] at hx
        obtain ⟨y, hy, rfl⟩ := hx
        have : (args.toList.map a.eval).getD k undef = a.eval y := by simp [List.getD, hy]
        rw [this]; exact ev_ok hst.fr y)
      have htm : (r.params.zip (args.map a.eval)).foldl (fun tmps (x : Tmp × Value) => tmps.setIfInBounds x.1 x.2) r.tmps = (l.params.toList.zip (args.toList.map a.eval)).foldl (fun t (x : Tmp × Value) => t.setIfInBounds x.1 x.2) r.tmps := by
        rw [← Array.foldl_toList, Array.toList_zip, g5]; simp
      have hbase : Hp ⟨C, E.G, some b⟩ C := by rw [← hG]; exact { hst.hp.base with }
      have hst1 : St ⟨C, E.G, some b⟩ C l.N (putAll l.F l.params.toList (args.toList.map (ev F))) { tmps := (l.params.toList.zip (args.toList.map a.eval)).foldl (fun t (x : Tmp × Value) => t.setIfInBounds x.1 x.2) r.tmps, defers := [] } :=
        { hp := hbase, size := q2, fr := q1, marks := ⟨[], rfl, List.nodup_nil, fun D hD => by cases hD⟩ }
      have hcomp : ∀ C', Hp ⟨C, E.G, some b⟩ C' → Hp K C' := fun C' h' => by rw [← hG] at h'; exact hst.hp.comp h'
      have h1 := h ⟨C, E.G, some b⟩ C _ rfl rfl rfl hst1 rfl
      refine roundIn_of_wpIn trivial ?_
      rw [htm, g6, g7]
      refine wpIn_mono h1 ?_
      rintro e a1 w1 ⟨F2, C2, rfl, k1, k2⟩
      cases e with
      | normal =>
        obtain ⟨l2, m1, m2, m3, m4⟩ := k2
        have hβ2 : C2.β i = some b := (k1.hp.ext.loopo i l hi).2.trans hb
        obtain ⟨b2, r2, p1, p2, p3, p4, p5, p6, p7, p8, p9⟩ := k1.hp.obj i _ m1
        rw [hβ2] at p1; cases p1
        obtain ⟨C3, n1, n2, n3, n4⟩ := loop_upd k1.hp m1 hβ2 p2 .busy r2.pending
        refine ⟨C3.w, by rw [n1]; exact run_beginRound p2 (p3.trans m2), ?_⟩
        have hH3 : C3.H = C2.H.set i (.loopo { l2 with state := .busy }) := by rw [n4, p4]
        have hst3 : St ⟨C, E.G, some b⟩ C3 l.N F2 a1 := { hp := n3, size := k1.size, fr := k1.fr.mono n2, marks := k1.marks.mono n2 }
        refine wpIn_mono (m4 ⟨C, E.G, some b⟩ C3 a1 rfl rfl rfl hst3 hH3) ?_
        rintro e4 a4 w4 ⟨F4, C4, rfl, t1, t2⟩
        have hβ4 : C4.β i = some b := (t1.hp.ext.loopo i l hi).2.trans hb
        have close : ∀ (l4 : LoopA) (jump : Option Code) (bo : Bool), C4.H[i]? = some (.loopo l4) → bo = jump.isNone → K' (.raw (.bool bo)) (C4.H.set i (.loopo { l4 with state := if jump.isNone then .ready else .done, pending := jump })) →
            ∃ v w', (Instr.endRound b jump).run E.P C4.w = .ok v w' ∧ ∃ v' C', C'.w = w' ∧ St K C' E.N (Go.Ab.put F o.dst v') (a.put o.dst v) ∧ K' v' C'.H := by
          intro l4 jump bo s1 s2 s3
          obtain ⟨b5, r5, u1, u2, _⟩ := t1.hp.obj i _ s1
          rw [hβ4] at u1; cases u1
          obtain ⟨C5, v1, v2, v3, v4⟩ := loop_upd t1.hp s1 hβ4 u2 (if jump.isNone then .ready else .done) jump
          refine ⟨_, _, run_endRound jump u2, .raw (.bool bo), C5, v1, ?_, by rw [v4]; exact s3⟩
          have eC : Ext C C5 := v3.ext
          rw [s2]
          exact hst.put eC (hcomp C5 v3) hd (.raw _)
        cases e4 with
        | normal => obtain ⟨l4, s1, s2⟩ := t2; exact close l4 none true s1 rfl s2
        | ret => obtain ⟨l4, s1, s2⟩ := t2; exact close l4 (some .ret) false s1 rfl s2
        | exit id => obtain ⟨l4, s1, s2⟩ := t2; exact close l4 (some (.exit id)) false s1 rfl s2
        | goto t => exact t2.elim
        | panic ch => exact t2.elim
        | outgrown => exact t2.elim
      | exit id => exact k2.elim
      | goto t => exact k2.elim
      | ret => exact k2.elim
      | panic ch => exact k2.elim
      | outgrown => exact k2.elim

-- (the arm of yield stands in 'step_ok')
theorem Oper.wpIn_mono' {Fe : Fence} {n : Nat} {P : Program} {o : Oper} {a : Act} {w : World} {K1 K2 : Act → World → Prop} {Q : Exit → Act → World → Prop} (h : ∀ a w, K1 a w → K2 a w) (hh : o.wpIn Fe n P a w K1 Q) : o.wpIn Fe n P a w K2 Q := by
  refine ⟨hh.1, ?_⟩
  have := hh.2
  generalize (o.semAt Fe.round a.eval).run P w = r at *
  cases r with
  | ok nx w' =>
    cases nx <;> simp only [Oper.uponIn] at this ⊢ <;> first
      | exact h _ _ this
      | exact ⟨this.1, this.2.mono (fun e w'' he => by cases e <;> first | exact h _ _ he | exact he)⟩
      | exact ⟨this.1, this.2.mono (fun _ _ he => h _ _ he)⟩
      | exact this
  | halt x w' => cases x <;> simp only [Oper.uponIn] at this ⊢ <;> exact this

theorem aops_sound {E : Env} {ops : Array Oper} {Q : Frm → Heap → Prop} (hd : dstOk E.N ops.toList = true) (hnd : ops.toList.all (fun o => noDefer o.op) = true) {K : Kon} (hG : K.G = E.G) (Q' : Exit → Act → World → Prop)
    (hQ : ∀ a w, (∃ F' C', C'.w = w ∧ St K C' E.N F' a ∧ Q F' C'.H) → Q' .normal a w) :
    ∀ (l : List Oper) (i : Nat) (F : Frm) (C : Ctx) (a : Act), (∀ j, l[j]? = ops[i + j]?) → i + l.length = ops.size → AOps E ops Q l F C.H → St K C E.N F a →
      wpOpsIn (rnd K.rb) 0 E.P ops Q' (List.range' i l.length) a C.w
  | [], i, F, C, a, _, _, h, hst => hQ _ _ ⟨F, C, rfl, hst, h⟩
  | o :: l, i, F, C, a, hl, hs, h, hst => by
    have ho : ops[i]? = some o := by simpa using (hl 0).symm
    obtain ⟨w, hw, ht, hf⟩ := h
    have hmem : o ∈ ops.toList := by
      rw [← Array.getElem?_toList] at ho; exact List.mem_of_getElem? ho
    have hdo : ∀ x, o.dst = some x → x < E.N := fun x hx => by
      have := List.all_eq_true.1 hd o hmem
      rw [hx] at this; simpa using this
    have hno := List.all_eq_true.1 hnd o hmem
    simp only [List.length_cons, List.range'_succ, wpOpsIn, ho]
    rw [gd_ok hst.fr hw]
    have go1 : ∀ (F : Frm) (C : Ctx) (a : Act), AOps E ops Q l F C.H → St K C E.N F a → wpOpsIn (rnd K.rb) 0 E.P ops Q' (List.range' (i + 1) l.length) a C.w :=
      fun F C a h hst => aops_sound hd hnd hG Q' hQ l (i + 1) F C a (fun j => by have := hl (j + 1); simpa [Nat.add_assoc, Nat.add_comm 1 j] using this) (by simp at hs; omega) h hst
    cases w with
    | true =>
      simp only [if_true]
      refine Oper.wpIn_mono' ?_ (step_ok (ht rfl) hno hdo hG hst rfl Q')
      rintro a' w' ⟨v, C', rfl, g1, g2⟩
      exact go1 _ C' a' g2 g1
    | false =>
      simp only [Bool.false_eq_true, if_false]
      exact ⟨fun _ _ => trivial, go1 _ C _ (hf rfl) (hst.put (Ext.refl C) hst.hp hdo (.raw undef))⟩

theorem awp_region {E : Env} {Q : Exit → Frm → Heap → Prop} {F : Frm} {H : Heap} {id : Nat} {ops : Array Oper} (hd : dstOk E.N ops.toList = true) (hnd : ops.toList.all (fun o => noDefer o.op) = true)
    (h : AOps E ops (Q .normal) ops.toList F H) : AWp E (.region id ops false) Q F H := by
  intro K C a h1 h2 h3 h4 h5
  subst h5
  refine wpIn_region ?_
  have := aops_sound hd hnd h3 (post K E.N Q) (fun a w h => h) ops.toList 0 F C a (by simp) (by simp) h h4
  rw [List.range_eq_range']
  simpa using this

end Go.Ab
namespace Go.Ab
open Go

/-- What follows a range over a function: as the loop's record says. -/
def afterLoop (E : Env) (Q : Exit → Frm → Heap → Prop) (F : Frm) (i : Nat) (H : Heap) : Prop :=
  ∃ l, H[i]? = some (.loopo l) ∧ l.state ≠ .busy ∧
    match l.pending with
    | none => Q .normal F (H.set i (.loopo { l with state := .exhausted }))
    | some c => AWp E c Q F (H.set i (.loopo { l with state := .exhausted }))

theorem awp_rangeFunc {E : Env} {Q : Exit → Frm → Heap → Prop} {F : Frm} {H : Heap} {g : Operand} {ps : Array Tmp} {assign body : Code} {gf : FuncId} {first caps : List AV} {R : AV → Heap → Prop}
    (hrd : E.rd = false) (hg : ev F g = .fn gf first caps) (hc : callable E.P gf = true)
    (hr : CallS E.P E.G gf (first ++ [.yl H.length] ++ caps) (H ++ [.loopo { state := .ready, pending := none, F := F, N := E.N, params := ps, assign := assign, body := body }]) R)
    (h : ∀ r H', R r H' → afterLoop E Q F H.length H') : AWp E (.rangeFunc g ps assign body) Q F H := by
  intro K C a h1 h2 h3 h4 h5
  subst h5
  have hrb : K.rb = none := by rw [hrd] at h2; cases hq : K.rb <;> simp [hq] at h2 ⊢
  rw [hrb]
  refine wpIn_rangeFunc ?_
  intro fn _
  have hv := hg ▸ ev_ok h4.fr g
  generalize hgv : a.eval g = gv at hv
  cases hv with
  | fn k1 k2 hf hcp =>
    rename_i fv cv
    -- the block for deferred calls
    obtain ⟨e1, hp1⟩ := h4.hp.world (C.w.alloc (.deferred (some []))) rfl rfl rfl (by simp) (fun b hb => heap_alloc_old C.w _ b hb)
    generalize hC1 : ({ C with w := C.w.alloc (.deferred (some [])) } : Ctx) = C1 at e1 hp1
    have hC1w : C1.w = C.w.alloc (.deferred (some [])) := by rw [← hC1]
    have hC1H : C1.H = C.H := by rw [← hC1]
    have hC1sz : C1.w.heap.size = C.w.heap.size + 1 := by rw [hC1w]; simp
    -- the record
    let rec1 : Loop := { state := .ready, pending := none, fn, tmps := a.tmps, params := ps, assign, body, defers := C.w.heap.size }
    have hpush := hp1.push (C1.w.alloc (.loop rec1)) (.loopo { state := .ready, pending := none, F := F, N := E.N, params := ps, assign := assign, body := body }) 0 rfl rfl rfl (by simp) (fun b hb => heap_alloc_old C1.w _ b hb) _ rfl
      (fun ex => ⟨C1.w.heap.size, rec1, by simp, World.alloc_heap_new C1.w _, rfl, rfl, rfl, rfl, rfl, h4.size, (h4.fr.mono e1).mono ex⟩)
    obtain ⟨e2, hp2⟩ := hpush
    generalize hC2 : ({ C1 with w := C1.w.alloc (.loop rec1), H := C1.H ++ [.loopo { state := .ready, pending := none, F := F, N := E.N, params := ps, assign := assign, body := body }], β := fun j => if j = C1.H.length then some C1.w.heap.size else C1.β j, κ := fun j => if j = C1.H.length then 0 else C1.κ j } : Ctx) = C2 at e2 hp2
    have hC2w : C2.w = (C.w.alloc (.deferred (some []))).alloc (.loop rec1) := by rw [← hC2, ← hC1w]
    have hC2H : C2.H = C.H ++ [.loopo { state := .ready, pending := none, F := F, N := E.N, params := ps, assign := assign, body := body }] := by rw [← hC2, ← hC1H]
    have hC2i : C2.H[C.H.length]? = some (.loopo { state := .ready, pending := none, F := F, N := E.N, params := ps, assign := assign, body := body }) := by rw [hC2H]; simp
    have hC2β : C2.β C.H.length = some (C.w.heap.size + 1) := by rw [← hC2, ← hC1H, ← hC1sz]; simp
    have e12 := e1.trans e2
    have hD : C1.w.heap[C.w.heap.size]? = some (.deferred (some [])) := by rw [hC1w]; exact World.alloc_heap_new C.w _
    have hDb : ¬ C1.bad C.w.heap.size := fun hbad => by
      have hb0 : C.bad C.w.heap.size := by rw [← hC1] at hbad; exact hbad
      rcases hb0 with h | ⟨i, hi, h⟩
      · have h8 : C.w.heap.size < K.C0.w.heap.size := h4.hp.xlt _ h
        have := h4.hp.size; omega
      · have h8 : C.w.heap.size < C.w.heap.size := h4.hp.lt i _ hi h
        omega
    obtain ⟨Ds, d1, d2, d3⟩ := h4.marks
    have hm1 : Marks K C1 ({ target := .collected C.w.heap.size, args := #[] } :: a.defers) := by
      refine ⟨C.w.heap.size :: Ds, by simp [d1], List.nodup_cons.2 ⟨fun hmem => ?_, d2⟩, fun D hDm => ?_⟩
      · have := heap_lt (d3 _ hmem).1; omega
      · rcases List.mem_cons.1 hDm with rfl | hDm
        · exact ⟨hD, hDb, h4.hp.size⟩
        · obtain ⟨x1, x2, x3⟩ := d3 D hDm
          have := e1.pers D x2 (heap_lt x1)
          exact ⟨this.1.trans x1, this.2, x3⟩
    have hargs : ArgsOk C2 (first ++ [.yl C.H.length] ++ caps) (fv ++ #[.func (.yield (C.w.heap.size + 1)) #[] #[]] ++ cv) := by
      have hfr : FrOk C2 [(0, .yl C.H.length)] ({ tmps := #[.func (.yield (C.w.heap.size + 1)) #[] #[]], defers := [] } : Act).tmps := fun k x hx => by
        simp only [List.lookup_cons, List.lookup_nil] at hx
        split at hx
        · rename_i hk
          have : k = 0 := by simpa using hk
          subst this
          cases hx
          exact .yl ⟨_, hC2i⟩ hC2β
        · cases hx
      have := args_ok (ev_ok hfr) (first := first) (caps := caps) (fv := fv) (cv := cv) #[.tmp 0] k1 k2 (fun k x hx => (hf k x hx).mono e12) (fun k x hx => (hcp k x hx).mono e12)
      simpa [ev, List.lookup, Act.eval] using this
    have hcall := hr K C2 _ h3 hC2H hp2 hargs
    refine ⟨C.w.heap.size + 1, [{ target := .collected C.w.heap.size, args := #[] }], C2.w, { target := .fn (.func gf) cv, args := fv ++ #[.func (.yield (C.w.heap.size + 1)) #[] #[]] }, C2.w, gf, fv ++ #[.func (.yield (C.w.heap.size + 1)) #[] #[]] ++ cv, C2.w, ?_, ?_, fun _ _ => trivial, ?_, fun h => by simp [rnd, Fence.wide] at h, ?_⟩
    · rw [hC2w]; exact run_enterLoop_outer _ _ _ _ _
    · simp only [resolve, rangeCall, hgv, Deferred.ofValue, Sem.run_pure]
      simp [Act.eval]
    · simp only [invoke, callable_run hc]
    · refine callsIn_rnd (hcall.mono ?_)
      rintro e w' ⟨r, v, C3, rfl, rfl, e3, hp3, hvr, hR⟩
      obtain ⟨l, m1, m2, m3⟩ := h r C3.H hR
      have hβ3 : C3.β C.H.length = some (C.w.heap.size + 1) := (e3.loopo C.H.length _ hC2i).2.trans hC2β
      obtain ⟨b, rr, p1, p2, p3, p4, p5, p6, p7, p8, p9⟩ := hp3.obj _ _ m1
      rw [hβ3] at p1; cases p1
      obtain ⟨C4, n1, n2, n3, n4⟩ := loop_upd hp3 m1 hβ3 p2 .exhausted rr.pending
      have hH4 : C4.H = C3.H.set C.H.length (.loopo { l with state := .exhausted }) := by rw [n4, p4]
      have hst4 : St K C4 E.N F { a with defers := [{ target := .collected C.w.heap.size, args := #[] }] ++ a.defers } :=
        { hp := n3, size := h4.size, fr := ((h4.fr.mono e12).mono e3).mono n2, marks := ((hm1.mono e2).mono e3).mono n2 }
      refine ⟨rr.pending, C4.w, by rw [n1]; exact run_endLoop p2 (fun hh => m2 (p3.symm.trans hh)), ?_⟩
      rw [p4]
      cases hpe : l.pending with
      | none =>
        rw [hpe] at m3 hH4
        exact ⟨F, C4, rfl, hst4, by rw [hH4]; exact m3⟩
      | some c =>
        rw [hpe] at m3 hH4
        have := m3 K C4 _ h1 h2 h3 hst4 hH4
        rw [hrb] at this
        exact this

/-- Slots that are not named are let go. -/
theorem awp_slots {E : Env} {c : Code} {Q : Exit → Frm → Heap → Prop} {F : Frm} {H : Heap} (F' : Frm) (hF : ∀ k x, F'.lookup k = some x → ev F (.tmp k) = x ∨ x = .any) (h : AWp E c Q F' H) : AWp E c Q F H := by
  intro K C a h1 h2 h3 h4 h5
  refine h K C a h1 h2 h3 { hp := h4.hp, size := h4.size, fr := fun k x hx => ?_, marks := h4.marks } h5
  rcases hF k x hx with h | h
  · rw [← h]; exact ev_ok h4.fr (.tmp k)
  · rw [h]; exact .any _

end Go.Ab
namespace Go.Ab
open Go

/-! Rules for stepping, in a form that 'rfl' can fill in. -/

def look : Frm → Nat → Option AV
  | [], _ => none
  | (k, v) :: F, t => bif Nat.beq t k then some v else look F t

theorem look_eq (t : Nat) : ∀ F : Frm, look F t = F.lookup t
  | [] => rfl
  | (k, v) :: F => by
    simp only [look, List.lookup_cons, look_eq t F]
    by_cases h : t = k
    · subst h; simp
    · have h1 : Nat.beq t k = false := by
        cases hb : Nat.beq t k with
        | false => rfl
        | true => exact absurd (Nat.eq_of_beq_eq_true hb) h
      have h2 : (t == k) = false := by simpa using h
      rw [h1, h2]; rfl

def evx (F : Frm) : Operand → Option AV
  | .tmp t => match look F t with | some v => some v | none => some .any
  | .const v => match v with | .agg cs => some (.agg (cs.toList.map .raw)) | v => some (.raw v)
  | .global g => some (.raw (.pointer (some ⟨g, 0, none⟩)))
  | .func f => some (.fn f [] [])

theorem evx_eq {F : Frm} {x : Operand} {v : AV} (h : evx F x = some v) : ev F x = v := by
  cases x with
  | tmp t =>
    simp only [evx, look_eq] at h
    simp only [ev]
    split at h <;> cases h <;> rename_i hq <;> simp [hq]
  | const c => cases c <;> simp only [evx] at h <;> cases h <;> rfl
  | global g => cases h; rfl
  | func f => cases h; rfl

theorem evx_iff {F : Frm} {x : Operand} : evx F x = some (ev F x) := by
  cases h : evx F x with
  | some v => rw [evx_eq h]
  | none =>
    cases x with
    | tmp t => simp only [evx] at h; split at h <;> cases h
    | const c => cases c <;> simp [evx] at h
    | global g => cases h
    | func f => cases h

def evs (F : Frm) : List Operand → Option (List AV)
  | [] => some []
  | x :: xs => match evx F x with
    | some v => match evs F xs with
      | some vs => some (v :: vs)
      | none => none
    | none => none

theorem evs_eq {F : Frm} : ∀ {xs : List Operand} {vs : List AV}, evs F xs = some vs → xs.map (ev F) = vs
  | [], vs, h => by cases h; rfl
  | x :: xs, vs, h => by
    simp only [evs] at h
    cases h1 : evx F x with
    | none => rw [h1] at h; cases h
    | some v =>
      rw [h1] at h
      cases h2 : evs F xs with
      | none => rw [h2] at h; cases h
      | some ws => rw [h2] at h; cases h; rw [List.map_cons, evx_eq h1, evs_eq h2]

/-! ### the operations of a region -/
section
variable {E : Env} {ops : Array Oper} {Q : Frm → Heap → Prop} {rest : List Oper} {F : Frm} {H H' : Heap} {op : Op} {d : Tmp} {t : TypeId} {p : String} {af : Array Edge} {g : Option (Nat × Bool)} {v : AV}

theorem a_nil (h : Q F H) : AOps E ops Q [] F H := h

theorem a_step (hg : gd ops F g = some true) (h : StepP E ⟨some d, op, t, p, af, g⟩ F H (fun v H' => AOps E ops Q rest ((d, v) :: F) H')) : AOps E ops Q (⟨some d, op, t, p, af, g⟩ :: rest) F H :=
  ⟨true, hg, fun _ => h, fun h => (by cases h)⟩
theorem a_step0 (hg : gd ops F g = some true) (h : StepP E ⟨none, op, t, p, af, g⟩ F H (fun _ H' => AOps E ops Q rest F H')) : AOps E ops Q (⟨none, op, t, p, af, g⟩ :: rest) F H :=
  ⟨true, hg, fun _ => h, fun h => (by cases h)⟩

theorem a_op (hg : gd ops F g = some true) (h : OpOk E.P op F H v H') (k : AOps E ops Q rest ((d, v) :: F) H') : AOps E ops Q (⟨some d, op, t, p, af, g⟩ :: rest) F H :=
  a_step hg (.op v H' h.g k)
theorem a_op0 (hg : gd ops F g = some true) (h : OpOk E.P op F H v H') (k : AOps E ops Q rest F H') : AOps E ops Q (⟨none, op, t, p, af, g⟩ :: rest) F H :=
  a_step0 hg (.op v H' h.g k)
theorem a_off (hg : gd ops F g = some false) (k : AOps E ops Q rest ((d, .raw undef) :: F) H) : AOps E ops Q (⟨some d, op, t, p, af, g⟩ :: rest) F H :=
  ⟨false, hg, fun h => (by cases h), fun _ => k⟩
theorem a_off0 (hg : gd ops F g = some false) (k : AOps E ops Q rest F H) : AOps E ops Q (⟨none, op, t, p, af, g⟩ :: rest) F H :=
  ⟨false, hg, fun h => (by cases h), fun _ => k⟩
theorem a_opg (hg : gd ops F g = some true) (h : OpG E.P E.G op F H v H') (k : AOps E ops Q rest ((d, v) :: F) H') : AOps E ops Q (⟨some d, op, t, p, af, g⟩ :: rest) F H :=
  a_step hg (.op v H' h k)
/-- A truth is split. -/
theorem a_if {q : Prop} [Decidable q] (hg : gd ops F g = some true) (h : OpOk E.P op F H (.raw (.bool (decide q))) H') (kt : q → AOps E ops Q rest ((d, .raw (.bool true)) :: F) H')
    (kf : ¬ q → AOps E ops Q rest ((d, .raw (.bool false)) :: F) H') : AOps E ops Q (⟨some d, op, t, p, af, g⟩ :: rest) F H := by
  refine a_op hg h ?_
  by_cases hq : q
  · rw [show decide q = true from decide_eq_true hq]; exact kt hq
  · rw [show decide q = false from decide_eq_false hq]; exact kf hq
theorem a_ifb {b : Bool} (hg : gd ops F g = some true) (h : OpOk E.P op F H (.raw (.bool b)) H') (kt : b = true → AOps E ops Q rest ((d, .raw (.bool true)) :: F) H')
    (kf : b = false → AOps E ops Q rest ((d, .raw (.bool false)) :: F) H') : AOps E ops Q (⟨some d, op, t, p, af, g⟩ :: rest) F H := by
  refine a_op hg h ?_
  cases b
  · exact kf rfl
  · exact kt rfl
end

/-! ### a pure function's contract -/

/-- With these data 'f' answers 'r', and leaves nothing. -/
structure PureCall (P : Program) (G : List (Nat × List Value)) (f : FuncId) (args : List AV) (r : AV) : Prop where
  pargs : ∀ x ∈ args, Pur x
  res : Pur r
  call : ACall P G f args [] (fun r' H' => r' = r ∧ H' = [])

section
variable {E : Env} {ops : Array Oper} {Q : Frm → Heap → Prop} {rest : List Oper} {F : Frm} {H : Heap} {d : Tmp} {t : TypeId} {p : String} {af : Array Edge} {g : Option (Nat × Bool)}
  {c : Operand} {xs : Array Operand} {tys : Array TypeId} {f : FuncId} {first caps vs : List AV} {r : AV}

theorem callP {K' : AV → Heap → Prop} {o : Oper} {R : AV → Heap → Prop} (ho : o.op = .call { callee := .value c, args := xs, argTypes := tys }) (hc : evx F c = some (.fn f first caps)) (hx : evs F xs.toList = some vs) (hca : callable E.P f = true)
    (h : CallS E.P E.G f (first ++ vs ++ caps) H R) (k : ∀ r H', R r H' → K' r H') : StepP E o F H K' :=
  .call c xs tys f first caps R ho (evx_eq hc) hca (by rw [evs_eq hx]; exact h) k

theorem a_pure (hg : gd ops F g = some true) (hc : evx F c = some (.fn f first caps)) (hx : evs F xs.toList = some vs) (hca : callable E.P f = true)
    (h : PureCall E.P E.G f (first ++ vs ++ caps) r) (k : AOps E ops Q rest ((d, r) :: F) H) :
    AOps E ops Q (⟨some d, .call { callee := .value c, args := xs, argTypes := tys }, t, p, af, g⟩ :: rest) F H :=
  a_step hg (callP rfl hc hx hca (CallS.pure h.pargs (R := (· = r)) (fun _ e => e ▸ h.res) h.call H) (by rintro r H' ⟨rfl, rfl⟩; exact k))

theorem a_pureb {b : Bool} (hg : gd ops F g = some true) (hc : evx F c = some (.fn f first caps)) (hx : evs F xs.toList = some vs) (hca : callable E.P f = true)
    (h : PureCall E.P E.G f (first ++ vs ++ caps) (.raw (.bool b))) (kt : b = true → AOps E ops Q rest ((d, .raw (.bool true)) :: F) H) (kf : b = false → AOps E ops Q rest ((d, .raw (.bool false)) :: F) H) :
    AOps E ops Q (⟨some d, .call { callee := .value c, args := xs, argTypes := tys }, t, p, af, g⟩ :: rest) F H := by
  refine a_pure hg hc hx hca h ?_
  cases b
  · exact kf rfl
  · exact kt rfl

theorem a_call {R : AV → Heap → Prop} (hg : gd ops F g = some true) (hc : evx F c = some (.fn f first caps)) (hx : evs F xs.toList = some vs) (hca : callable E.P f = true)
    (h : CallS E.P E.G f (first ++ vs ++ caps) H R) (k : ∀ r H', R r H' → AOps E ops Q rest ((d, r) :: F) H') :
    AOps E ops Q (⟨some d, .call { callee := .value c, args := xs, argTypes := tys }, t, p, af, g⟩ :: rest) F H :=
  a_step hg (callP rfl hc hx hca h k)
end

/-! ### codes -/
section
variable {E : Env} {Q : Exit → Frm → Heap → Prop} {F : Frm} {H : Heap}

theorem w_reg {id : Nat} {ops : Array Oper} {l : List Oper} (hl : ops.toList = l) (hd : dstOk E.N ops.toList = true ∧ ops.toList.all (fun o => noDefer o.op) = true) (h : AOps E ops (Q .normal) l F H) : AWp E (.region id ops false) Q F H :=
  awp_region hd.1 hd.2 (hl ▸ h)

theorem tq_n {next : Frm → Heap → Prop} (h : next F H) : thenQ next Q .normal F H := h
theorem tq_x {next : Frm → Heap → Prop} {id : Nat} (h : Q (.exit id) F H) : thenQ next Q (.exit id) F H := h
theorem tq_r {next : Frm → Heap → Prop} (h : Q .ret F H) : thenQ next Q .ret F H := h
theorem bq_n {id : Nat} (h : Q .normal F H) : blockQ id Q .normal F H := h
theorem bq_r {id : Nat} (h : Q .ret F H) : blockQ id Q .ret F H := h
theorem bq_hit {id : Nat} (h : Q .normal F H) : blockQ id Q (.exit id) F H := by simp [blockQ, h]
theorem bq_miss {id id' : Nat} (hne : Nat.beq id' id = false) (h : Q (.exit id') F H) : blockQ id Q (.exit id') F H := by
  have : id' ≠ id := fun e => by subst e; simp at hne
  simp [blockQ, this, h]

theorem w_true {c : Operand} {x y : Code} (hc : evx F c = some (.raw (.bool true))) (h : AWp E x Q F H) : AWp E (.cond c x y) Q F H :=
  awp_cond (evx_eq hc) (fun _ => h) (fun h => by cases h)
theorem w_false {c : Operand} {x y : Code} (hc : evx F c = some (.raw (.bool false))) (h : AWp E y Q F H) : AWp E (.cond c x y) Q F H :=
  awp_cond (evx_eq hc) (fun h => by cases h) (fun _ => h)
theorem w_if {c : Operand} {x y : Code} {q : Prop} [Decidable q] (hc : evx F c = some (.raw (.bool (decide q)))) (ht : q → AWp E x Q F H) (hf : ¬ q → AWp E y Q F H) : AWp E (.cond c x y) Q F H :=
  awp_cond (evx_eq hc) (fun h => ht (of_decide_eq_true h)) (fun h => hf (of_decide_eq_false h))
theorem w_ifb {c : Operand} {x y : Code} {b : Bool} (hc : evx F c = some (.raw (.bool b))) (ht : b = true → AWp E x Q F H) (hf : b = false → AWp E y Q F H) : AWp E (.cond c x y) Q F H :=
  awp_cond (evx_eq hc) ht hf

/-- What stands in the one frame stands in the other. -/
def Sub : Frm → Frm → Prop
  | [], _ => True
  | (k, x) :: F1, F => evx F (.tmp k) = some x ∧ Sub F1 F

theorem Sub.look {F : Frm} : ∀ {F1 : Frm}, Sub F1 F → ∀ k x, F1.lookup k = some x → ev F (.tmp k) = x
  | [], _, k, x, h => by simp at h
  | (k', x') :: F1, h, k, x, hl => by
    simp only [List.lookup_cons] at hl
    split at hl
    · rename_i hk
      have : k = k' := by simpa using hk
      subst this
      cases hl
      exact evx_eq h.1
    · exact Sub.look h.2 k x hl

theorem sub_int {k : Nat} {κ : IntKind} {a b : Int} (h : evx F (.tmp k) = some (.raw (.int κ a))) (e : a = b) : evx F (.tmp k) = some (.raw (.int κ b)) := e ▸ h
theorem sub_eq {k : Nat} {a b : AV} (h : evx F (.tmp k) = some a) (e : a = b) : evx F (.tmp k) = some b := e ▸ h

theorem w_keep {c : Code} (F1 : Frm) (h : Sub F1 F) (k : AWp E c Q F1 H) : AWp E c Q F H := awp_slots F1 (fun k x hx => .inl (h.look k x hx)) k

/-- Several ways come together. -/
theorem w_join {ι : Type} {x y : Code} (Pre : ι → Prop) (Fs : ι → Frm) (Hs : ι → Heap) (h1 : AWp E x (thenQ (fun F' H' => ∃ i, Pre i ∧ Sub (Fs i) F' ∧ H' = Hs i) Q) F H) (h2 : ∀ i, Pre i → AWp E y Q (Fs i) (Hs i)) : AWp E (.seq x y) Q F H := by
  refine awp_seq (awp_mono h1 fun e F H he => ?_)
  cases e with
  | normal => obtain ⟨i, hi, hs, rfl⟩ := he; exact w_keep _ hs (h2 i hi)
  | _ => exact he

theorem w_loop {ι : Type} {c : Code} (Pre : ι → Prop) (Fs : ι → Frm) (Hs : ι → Heap) (μ : ι → Nat) (i : ι) (h0 : Pre i) (hF : Sub (Fs i) F) (hH : H = Hs i)
    (round : ∀ i, Pre i → AWp E c (thenQ (fun F' H' => ∃ j, (Pre j ∧ μ j < μ i) ∧ Sub (Fs j) F' ∧ H' = Hs j) Q) (Fs i) (Hs i)) : AWp E (.loop c) Q F H := by
  refine awp_loop (fun j F H => Pre j ∧ Sub (Fs j) F ∧ H = Hs j) μ i ⟨h0, hF, hH⟩ ?_
  rintro j F' H' ⟨hp, hs, rfl⟩
  refine w_keep (Fs j) hs (awp_mono (round j hp) fun e F H he => ?_)
  cases e with
  | normal => obtain ⟨i, ⟨hi, hlt⟩, hs, rfl⟩ := he; exact ⟨i, ⟨hi, hs, rfl⟩, hlt⟩
  | _ => exact he
end
end Go.Ab
namespace Go.Ab
open Go

/-! ### lists, so that a whole answer comes out -/
def nthX {α : Type} : List α → Nat → Option α
  | [], _ => none
  | x :: _, 0 => some x
  | _ :: l, n + 1 => nthX l n
theorem nthX_eq {α : Type} : ∀ (l : List α) (n : Nat), nthX l n = l[n]?
  | [], n => by simp [nthX]
  | x :: l, 0 => by simp [nthX]
  | x :: l, n + 1 => by simp [nthX, nthX_eq l n]

def takeX {α : Type} : Nat → List α → Option (List α)
  | 0, _ => some []
  | _ + 1, [] => none
  | n + 1, x :: l => match takeX n l with | some r => some (x :: r) | none => none
theorem takeX_eq {α : Type} : ∀ (n : Nat) (l r : List α), takeX n l = some r → n ≤ l.length ∧ l.take n = r
  | 0, l, r, h => by cases h; simp
  | n + 1, [], r, h => by cases h
  | n + 1, x :: l, r, h => by
    simp only [takeX] at h
    cases hq : takeX n l with
    | none => rw [hq] at h; cases h
    | some r' => rw [hq] at h; cases h; have := takeX_eq n l r' hq; simp [this.2]; exact this.1

def dropX {α : Type} : Nat → List α → Option (List α)
  | 0, l => some l
  | _ + 1, [] => none
  | n + 1, _ :: l => dropX n l
theorem dropX_eq {α : Type} : ∀ (n : Nat) (l r : List α), dropX n l = some r → n ≤ l.length ∧ l.drop n = r
  | 0, l, r, h => by cases h; simp
  | n + 1, [], r, h => by cases h
  | n + 1, x :: l, r, h => by have := dropX_eq n l r h; simp [this.2]; exact this.1

def setX {α : Type} : List α → Nat → α → Option (List α)
  | [], _, _ => none
  | _ :: l, 0, y => some (y :: l)
  | x :: l, n + 1, y => match setX l n y with | some r => some (x :: r) | none => none
theorem setX_eq {α : Type} : ∀ (l : List α) (n : Nat) (y : α) (r : List α), setX l n y = some r → n < l.length ∧ l.set n y = r
  | [], _, _, r, h => by cases h
  | x :: l, 0, y, r, h => by cases h; simp
  | x :: l, n + 1, y, r, h => by
    simp only [setX] at h
    cases hq : setX l n y with
    | none => rw [hq] at h; cases h
    | some r' => rw [hq] at h; cases h; have := setX_eq l n y r' hq; simp [this.2]; exact this.1

def setsX {α : Type} : List α → Nat → List α → Option (List α)
  | l, _, [] => some l
  | l, n, y :: ys => match setX l n y with | some r => setsX r (n + 1) ys | none => none
theorem splice_cons {α : Type} (l : List α) (n : Nat) (y : α) (ys : List α) (h : n < l.length) : splice (l.set n y) (n + 1) ys = splice l n (y :: ys) := by
  unfold splice
  rw [List.take_set, List.drop_set]
  rw [if_pos (by omega)]
  have : (List.take (n + 1) l).set n y = List.take n l ++ [y] := by
    rw [List.take_succ_eq_append_getElem h, List.set_append, if_neg (by simp; omega)]
    simp [Nat.min_eq_left (Nat.le_of_lt h)]
  rw [this]
  simp [Nat.add_assoc, Nat.add_comm, Nat.add_left_comm]
theorem setsX_eq {α : Type} : ∀ (ys l : List α) (n : Nat) (r : List α), setsX l n ys = some r → (ys = [] ∨ n + ys.length ≤ l.length) ∧ splice l n ys = r
  | [], l, n, r, h => by cases h; simp [splice]
  | y :: ys, l, n, r, h => by
    simp only [setsX] at h
    cases hq : setX l n y with
    | none => rw [hq] at h; cases h
    | some r' =>
      rw [hq] at h
      obtain ⟨h1, rfl⟩ := setX_eq l n y r' hq
      obtain ⟨h2, h3⟩ := setsX_eq ys _ _ r h
      refine ⟨.inr ?_, by rw [← splice_cons _ _ _ _ h1]; exact h3⟩
      rcases h2 with rfl | h2
      · simp; omega
      · simp at h2; simp; omega

def snocX {α : Type} : List α → α → Option (List α)
  | [], y => some [y]
  | x :: l, y => match snocX l y with | some r => some (x :: r) | none => none
theorem snocX_eq {α : Type} : ∀ (l : List α) (y : α) (r : List α), snocX l y = some r → l ++ [y] = r
  | [], y, r, h => by cases h; rfl
  | x :: l, y, r, h => by
    simp only [snocX] at h
    cases hq : snocX l y with
    | none => rw [hq] at h; cases h
    | some r' => rw [hq] at h; cases h; rw [List.cons_append, snocX_eq l y r' hq]

def rawsX : List Value → Option (List AV)
  | [] => some []
  | v :: l => match rawsX l with | some r => some (.raw v :: r) | none => none
theorem rawsX_eq : ∀ (l : List Value) (r : List AV), rawsX l = some r → l.map .raw = r
  | [], r, h => by cases h; rfl
  | v :: l, r, h => by
    simp only [rawsX] at h
    cases hq : rawsX l with
    | none => rw [hq] at h; cases h
    | some r' => rw [hq] at h; cases h; rw [List.map_cons, rawsX_eq l r' hq]

/-! ### whole numbers -/
def klo : IntKind → Int
  | .i8 => -128 | .i16 => -32768 | .i32 => -2147483648 | .i64 => -9223372036854775808 | _ => 0
def khi : IntKind → Int
  | .i8 => 127 | .i16 => 32767 | .i32 => 2147483647 | .i64 => 9223372036854775807
  | .u8 => 255 | .u16 => 65535 | .u32 => 4294967295 | _ => 18446744073709551615

theorem wrap_id {k : IntKind} {n : Int} (h : klo k ≤ n ∧ n ≤ khi k) : k.wrap n = n := by
  cases k <;> simp only [klo, khi] at h <;> simp [IntKind.wrap, IntKind.bits, IntKind.signed] <;> omega

section
variable {P : Program} {F : Frm} {H H' : Heap} {x y c a : Operand} {t t' e : TypeId} {k k' : IntKind} {m n : Int} {v u : AV}

theorem o_mv (hx : evx F x = some v) : OpOk P (.move x) F H v H := evx_eq hx ▸ ok_move x
theorem o_as (hx : evx F x = some v) : OpOk P (.assign x) F H v H := evx_eq hx ▸ ok_assign x
theorem o_pkt (hc : evx F c = some (.raw (.bool true))) (hx : evx F x = some v) : OpOk P (.pick c x y) F H v H := by
  have := ok_pick (P := P) (H := H) (a := x) (b := y) (evx_eq hc); rw [if_pos rfl, evx_eq hx] at this; exact this
theorem o_pkf (hc : evx F c = some (.raw (.bool false))) (hy : evx F y = some v) : OpOk P (.pick c x y) F H v H := by
  have := ok_pick (P := P) (H := H) (a := x) (b := y) (evx_eq hc); rw [if_neg (by decide), evx_eq hy] at this; exact this

theorem o_bin {op : BinOp} {p q r : Value} (hx : evx F x = some (.raw p)) (hy : evx F y = some (.raw q)) (h : rawBin P op t p q = some r) : OpOk P (.binOp op t x y t') F H (.raw r) H :=
  ok_bin (evx_eq hx) (evx_eq hy) h
theorem o_add (hx : evx F x = some (.raw (.int k m))) (hy : evx F y = some (.raw (.int k n))) (hb : klo k ≤ m + n ∧ m + n ≤ khi k) : OpOk P (.binOp .add t x y t') F H (.raw (.int k (m + n))) H :=
  o_bin hx hy (by simp [rawBin, wrap_id hb])
theorem o_sub (hx : evx F x = some (.raw (.int k m))) (hy : evx F y = some (.raw (.int k n))) (hb : klo k ≤ m - n ∧ m - n ≤ khi k) : OpOk P (.binOp .sub t x y t') F H (.raw (.int k (m - n))) H :=
  o_bin hx hy (by simp [rawBin, wrap_id hb])
theorem o_mul (hx : evx F x = some (.raw (.int k m))) (hy : evx F y = some (.raw (.int k n))) (hb : klo k ≤ m * n ∧ m * n ≤ khi k) : OpOk P (.binOp .mul t x y t') F H (.raw (.int k (m * n))) H :=
  o_bin hx hy (by simp [rawBin, wrap_id hb])
theorem o_quo (hx : evx F x = some (.raw (.int k m))) (hy : evx F y = some (.raw (.int k n))) (h0 : 0 ≤ m ∧ m ≤ khi k) (hn : 0 < n) : OpOk P (.binOp .quo t x y t') F H (.raw (.int k (m / n))) H :=
  o_bin hx hy (by
    have h1 : n ≠ 0 := by omega
    have h2 : m.tdiv n = m / n := Int.tdiv_eq_ediv_of_nonneg h0.1
    have h3 : 0 ≤ m / n := Int.ediv_nonneg h0.1 (by omega)
    have h4 : m / n ≤ m := Int.ediv_le_self _ h0.1
    have h5 : klo k ≤ 0 := by cases k <;> decide
    simp [rawBin, h1, h2, wrap_id (k := k) (n := m / n) ⟨by omega, by omega⟩])
theorem o_quot (hx : evx F x = some (.raw (.int k m))) (hy : evx F y = some (.raw (.int k n))) (hn : 0 < n) (h0 : klo k ≤ m ∧ m ≤ khi k) : OpOk P (.binOp .quo t x y t') F H (.raw (.int k (m.tdiv n))) H :=
  o_bin hx hy (by
    have h1 : n ≠ 0 := by omega
    have h5 : klo k ≤ 0 := by cases k <;> decide
    have h6 : 0 ≤ khi k := by cases k <;> decide
    have h2 : klo k ≤ m.tdiv n ∧ m.tdiv n ≤ khi k := by
      rcases Int.le_total 0 m with h | h
      · have h7 : m.tdiv n = m / n := Int.tdiv_eq_ediv_of_nonneg h
        have h3 : 0 ≤ m / n := Int.ediv_nonneg h (by omega)
        have h4 : m / n ≤ m := Int.ediv_le_self _ h
        omega
      · have h7 : (-m).tdiv n = -m / n := Int.tdiv_eq_ediv_of_nonneg (by omega)
        have h8 : (-m).tdiv n = -(m.tdiv n) := Int.neg_tdiv ..
        have h3 : 0 ≤ -m / n := Int.ediv_nonneg (by omega) (by omega)
        have h4 : -m / n ≤ -m := Int.ediv_le_self _ (by omega)
        omega
    simp [rawBin, h1, wrap_id h2])
theorem o_rem (hx : evx F x = some (.raw (.int k m))) (hy : evx F y = some (.raw (.int k n))) (h0 : 0 ≤ m) (hn : 0 < n) : OpOk P (.binOp .rem t x y t') F H (.raw (.int k (m % n))) H :=
  o_bin hx hy (by have h1 : n ≠ 0 := by omega
                  simp [rawBin, h1, Int.tmod_eq_emod_of_nonneg h0])
theorem o_remt (hx : evx F x = some (.raw (.int k m))) (hy : evx F y = some (.raw (.int k n))) (hn : n ≠ 0) : OpOk P (.binOp .rem t x y t') F H (.raw (.int k (m.tmod n))) H :=
  o_bin hx hy (by simp [rawBin, hn])
theorem o_lt (hx : evx F x = some (.raw (.int k m))) (hy : evx F y = some (.raw (.int k n))) : OpOk P (.binOp .lss t x y t') F H (.raw (.bool (decide (m < n)))) H := o_bin hx hy (by simp [rawBin])
theorem o_le (hx : evx F x = some (.raw (.int k m))) (hy : evx F y = some (.raw (.int k n))) : OpOk P (.binOp .leq t x y t') F H (.raw (.bool (decide (m ≤ n)))) H := o_bin hx hy (by simp [rawBin])
theorem o_gt (hx : evx F x = some (.raw (.int k m))) (hy : evx F y = some (.raw (.int k n))) : OpOk P (.binOp .gtr t x y t') F H (.raw (.bool (decide (m > n)))) H := o_bin hx hy (by simp [rawBin])
theorem o_ge (hx : evx F x = some (.raw (.int k m))) (hy : evx F y = some (.raw (.int k n))) : OpOk P (.binOp .geq t x y t') F H (.raw (.bool (decide (m ≥ n)))) H := o_bin hx hy (by simp [rawBin])
theorem o_eq (hx : evx F x = some (.raw (.int k m))) (hy : evx F y = some (.raw (.int k n))) : OpOk P (.binOp .eql t x y t') F H (.raw (.bool (decide (m = n)))) H := o_bin hx hy (by
  simp only [rawBin, if_pos]; congr 2)
theorem o_ne (hx : evx F x = some (.raw (.int k m))) (hy : evx F y = some (.raw (.int k n))) : OpOk P (.binOp .neq t x y t') F H (.raw (.bool (decide (m ≠ n)))) H := o_bin hx hy (by
  simp only [rawBin, if_pos]; congr 2
  by_cases h : m = n <;> simp [h])
theorem o_nt {b : Bool} (hx : evx F x = some (.raw (.bool b))) : OpOk P (.unOp .not t x) F H (.raw (.bool (!b))) H := ok_un (evx_eq hx) rfl
theorem o_ntt (hx : evx F x = some (.raw (.bool true))) : OpOk P (.unOp .not t x) F H (.raw (.bool false)) H := ok_un (evx_eq hx) rfl
theorem o_ntf (hx : evx F x = some (.raw (.bool false))) : OpOk P (.unOp .not t x) F H (.raw (.bool true)) H := ok_un (evx_eq hx) rfl
theorem o_neg (hx : evx F x = some (.raw (.int k n))) (hb : klo k ≤ 0 - n ∧ 0 - n ≤ khi k) : OpOk P (.unOp .neg t x) F H (.raw (.int k (0 - n))) H := ok_un (evx_eq hx) (by simp only [rawUn, wrap_id hb])
theorem o_shr (hx : evx F x = some (.raw (.int k m))) (hy : evx F y = some (.raw (.int k' n))) (h0 : 0 ≤ n) : OpOk P (.binOp .shr t x y t') F H (.raw (.int k (m / 2 ^ min n.toNat k.bits))) H :=
  .still fun K C ρ oo ho hp hH hρ => by
    have h1 : ρ x = .int k m := Vl.raw_inv (evx_eq hx ▸ hρ x)
    have h2 : ρ y = .int k' n := Vl.raw_inv (evx_eq hy ▸ hρ y)
    refine ⟨_, ?_, .raw _⟩
    simp only [execOp, ho, h1, h2, Sem.run_bind, show eqGuard .shr t x y (.int k m) (.int k' n) = pure () from rfl, Sem.run_pure, Result.andThen_ok, binOp_shr, shift_shr_any k k' m n h0]
theorem o_cv {s d : TypeId} {ks : IntKind} (hs : intKindOf P s = some ks) (hd : intKindOf P d = some k') (hx : evx F x = some (.raw (.int k n))) (hb : klo k' ≤ n ∧ n ≤ khi k') :
    OpOk P (.convert s d x) F H (.raw (.int k' n)) H := by have := ok_conv (P := P) (H := H) hs hd (evx_eq hx); rw [wrap_id hb] at this; exact this
theorem o_min {ty : Array TypeId} (hx : evx F x = some (.raw (.int k m))) (hy : evx F y = some (.raw (.int k' n))) : OpOk P (.call { callee := .builtin .min, args := #[x, y], argTypes := ty }) F H (.raw (.int k (min m n))) H :=
  .still fun K C ρ oo ho hp hH hρ => by
    have h1 : ρ x = .int k m := Vl.raw_inv (evx_eq hx ▸ hρ x)
    have h2 : ρ y = .int k' n := Vl.raw_inv (evx_eq hy ▸ hρ y)
    refine ⟨.int k (min m n), ?_, .raw _⟩
    simp only [execOp, ho, resolve, Sem.run_bind, Sem.run_pure, Result.andThen_ok, invoke, builtin]
    simp only [List.map_toArray, List.map_cons, List.map_nil, h1, h2]
    simp only [Sem.run_bind, run_min_int2, Result.andThen_ok, Sem.run_pure]
    have : (if n < m then n else m) = min m n := by rw [Int.min_def]; split <;> split <;> omega
    rw [this]
theorem o_max {ty : Array TypeId} (hx : evx F x = some (.raw (.int k m))) (hy : evx F y = some (.raw (.int k' n))) : OpOk P (.call { callee := .builtin .max, args := #[x, y], argTypes := ty }) F H (.raw (.int k (max m n))) H :=
  .still fun K C ρ oo ho hp hH hρ => by
    have h1 : ρ x = .int k m := Vl.raw_inv (evx_eq hx ▸ hρ x)
    have h2 : ρ y = .int k' n := Vl.raw_inv (evx_eq hy ▸ hρ y)
    refine ⟨.int k (max m n), ?_, .raw _⟩
    simp only [execOp, ho, resolve, Sem.run_bind, Sem.run_pure, Result.andThen_ok, invoke, builtin]
    simp only [List.map_toArray, List.map_cons, List.map_nil, h1, h2]
    simp only [Sem.run_bind, run_max_int2, Result.andThen_ok, Sem.run_pure]
    have : (if m < n then n else m) = max m n := by rw [Int.max_def]; split <;> split <;> omega
    rw [this]

/-! ### parts -/
theorem o_ex {i : Nat} {vs : List AV} (hx : evx F x = some (.tup vs)) (hi : nthX vs i = some v) : OpOk P (.extract x i) F H v H := ok_extract (evx_eq hx) ((nthX_eq _ _).symm.trans hi)
theorem o_nc (hx : evx F x = some v) (hp : isPtr v = true) : OpOk P (.nilCheck x) F H v H := by
  have := ok_nilCheck (P := P) (H := H) (x := x) (F := F) (by rw [evx_eq hx]; exact hp); rw [evx_eq hx] at this; exact this
theorem o_mf {f : FuncId} {p q : Array Operand} {ps qs : List AV} (h1 : evs F p.toList = some ps) (h2 : evs F q.toList = some qs) : OpOk P (.makeFunc (.func f) p q) F H (.fn f ps qs) H := by
  have := ok_makeFunc (P := P) (F := F) (H := H) (f := f) (a := p) (b := q); rw [evs_eq h1, evs_eq h2] at this; exact this

/-- Reading cells. -/
def rdX (H : Heap) (a : AV) (n : Nat) : Option (List AV) :=
  match a with
  | .ptr i off => match nthX H i with
    | some (.var cs) => match dropX off cs with | some r => takeX n r | none => none
    | _ => none
  | .rp cs => takeX n cs
  | _ => none
theorem rdX_eq {a : AV} {n : Nat} {cs : List AV} (h : rdX H a n = some cs) : rdCells H a n = some cs := by
  cases a <;> simp only [rdX] at h <;> try cases h
  · simp only [rdCells]
    rw [nthX_eq] at h
    split at h
    · rename_i cs' hq
      rw [hq]
      split at h
      · rename_i r hd
        obtain ⟨h1, rfl⟩ := dropX_eq _ _ _ hd
        obtain ⟨h2, h3⟩ := takeX_eq _ _ _ h
        simp at h2
        simp only []
        rw [if_pos (by omega), h3]
      · cases h
    · cases h
  · obtain ⟨h2, h3⟩ := takeX_eq _ _ _ h
    simp only [rdCells]
    rw [if_pos h2, h3]

theorem o_ldg {N : Nat} {cs : List AV} (hg : tagg P t = some true) (hn : tsize P t = some N) (hx : evx F x = some u) (h : rdX H u N = some cs) : OpOk P (.load t x) F H (.agg cs) H :=
  ok_load (by simp only [rdVar, hg, hn, evx_eq hx, rdX_eq h, Option.map_some])
theorem o_ld (hg : tagg P t = some false) (hx : evx F x = some u) (h : rdX H u 1 = some [v]) : OpOk P (.load t x) F H v H :=
  ok_load (by simp only [rdVar, hg, evx_eq hx, rdX_eq h, Option.bind_some]; rfl)
/-- Reading in a row of the call's own. -/
theorem pel_rd {i ver j off z N : Nat} {es : List AV} {el : AV} {r : List AV} (hH : H[i]? = some (.vec z ver es)) (he : es[j]? = some el) (h : rdX [] (.rp el.cells) (off + N) = some r) : rdCells H (.pel i ver j off) N = some (r.drop off) := by
  simp only [rdX] at h
  obtain ⟨h1, rfl⟩ := takeX_eq _ _ _ h
  simp only [rdCells, hH, he, if_true]
  rw [if_pos h1]
  congr 1
  apply List.ext_getElem?
  intro q
  simp only [List.getElem?_take, List.getElem?_drop]
  split <;> split <;> first | rfl | omega
theorem o_ldp {i ver j off z : Nat} {es : List AV} {el : AV} (hg : tagg P t = some false) (hx : evx F x = some (.pel i ver j off)) (hH : H[i]? = some (.vec z ver es)) (he : es[j]? = some el) (h : nthX el.cells off = some v) : OpOk P (.load t x) F H v H :=
  ok_load (by
    simp only [rdVar, hg, evx_eq hx, rdCells, hH, he, if_true]
    rw [nthX_eq] at h
    have := get_lt h
    rw [if_pos (by omega)]
    simp [h])
theorem o_ldpg {i ver j N z : Nat} {es : List AV} {el : AV} {cs : List AV} (hg : tagg P t = some true) (hn : tsize P t = some N) (hx : evx F x = some (.pel i ver j 0)) (hH : H[i]? = some (.vec z ver es)) (he : es[j]? = some el) (h : takeX N el.cells = some cs) :
    OpOk P (.load t x) F H (.agg cs) H :=
  ok_load (by
    obtain ⟨h1, h2⟩ := takeX_eq _ _ _ h
    simp only [rdVar, hg, hn, evx_eq hx, rdCells, hH, he, if_true, Nat.zero_add, if_pos h1, List.drop_zero, h2, Option.map_some])

def padX (a : AV) (n : Nat) : Option AV :=
  match a with
  | .ptr i off => some (.ptr i (off + n))
  | .rp cs => match dropX n cs with | some r => some (.rp r) | none => none
  | _ => none
theorem o_fa {s : TypeId} {f o : Nat} (hf : fieldOff P s f = some (o, t)) (hx : evx F x = some u) (h : padX u o = some v) : OpOk P (.fieldAddr s x f) F H v H := by
  refine ok_fieldAddr hf ?_ ?_
  · rw [evx_eq hx]; cases u <;> first | rfl | (simp only [padX] at h; cases h)
  · rw [evx_eq hx]
    cases u <;> simp only [padX] at h <;> try cases h
    · rfl
    · split at h
      · rename_i r hd
        cases h
        obtain ⟨h1, rfl⟩ := dropX_eq _ _ _ hd
        simp [ptrAdd, h1]
      · cases h
theorem o_fap {s : TypeId} {f o i ver j off z : Nat} {es : List AV} (hf : fieldOff P s f = some (o, t)) (hx : evx F x = some (.pel i ver j off)) (hH : H[i]? = some (.vec z ver es)) : OpOk P (.fieldAddr s x f) F H (.pel i ver j (off + o)) H := by
  refine ok_fieldAddr hf ?_ ?_
  · rw [evx_eq hx]; simp [fresh, hH]
  · rw [evx_eq hx]; rfl
theorem o_ix {i : Operand} {z j : Nat} {b : Fl} {es : List AV} (ht : sliceElem P t = some e) (hz : tsize P e = some z) (hx : evx F x = some (.sl z b es)) (hi : evx F i = some (.raw (.int k n))) (hn : n = (j : Int)) (hv : es[j]? = some v) :
    OpOk P (.indexAddr t x i) F H (.rp v.cells) H := by
  subst hn
  exact ok_indexAddr_sl ht hz (evx_eq hx) (evx_eq hi) (by omega) (by simpa using hv)
theorem o_ixo {i : Operand} {z j q ver off len : Nat} {es : List AV} (ht : sliceElem P t = some e) (hz : tsize P e = some z) (hx : evx F x = some (.slo q ver off len)) (hH : H[q]? = some (.vec z ver es)) (hi : evx F i = some (.raw (.int k n))) (hn : n = (j : Int)) (hj : j < len) :
    OpOk P (.indexAddr t x i) F H (.pel q ver (off + j) 0) H := by
  subst hn
  exact ok_indexAddr_slo ht hz (evx_eq hx) hH (evx_eq hi) (by omega) (by omega)
theorem o_len {j q : Nat} (hx : evx F x = some v) (hl : lenAV H v = some q) (hq : q = j) (ht : lenTy P t = some (lenKind v)) : OpOk P (.call { callee := .builtin .len, args := #[x], argTypes := #[t] }) F H (.raw (.int .i64 (j : Int))) H := by
  subst hq; exact ok_len (ty := #[]) (by rw [evx_eq hx]; exact hl) (by rw [evx_eq hx]; exact ht)

/-! ### new memory -/
theorem o_box {N : Nat} (hx : evx F x = some v) (hg : v.goodPart H = true) (hN : H.length = N) (hH : snocX H (.var v.cells) = some H') : OpOk P (.box t x) F H (.ptr N 0) H' := by
  have := ok_box (P := P) (t := t) (x := x) (F := F) (H := H) (by rw [evx_eq hx]; exact hg)
  rw [evx_eq hx, snocX_eq _ _ _ hH, hN] at this; exact this
theorem o_al {N : Nat} {zs : List Value} {cs : List AV} (hz : tzero P t = some zs) (hc : rawsX zs = some cs) (hN : H.length = N) (hH : snocX H (.var cs) = some H') : OpOk P (.alloc t) F H (.ptr N 0) H' := by
  have := ok_alloc (P := P) (t := t) (F := F) (H := H) hz
  rw [rawsX_eq _ _ hc, snocX_eq _ _ _ hH, hN] at this; exact this

/-- Writing cells. -/
def wrX (H : Heap) (a : AV) (xs : List AV) : Option Heap :=
  match a with
  | .ptr i off => match nthX H i with
    | some (.var cs) => match setsX cs off xs with | some r => setX H i (.var r) | none => none
    | _ => none
  | _ => none
theorem o_st {N : Nat} (hs : tsize P t = some (N + 1)) (hx : evx F x = some v) (hN : v.cells.length = N + 1) (hg : v.goodPart H = true) (ha : evx F a = some u) (hw : wrX H u v.cells = some H') : OpOk P (.store t a x) F H (.raw undef) H' := by
  refine ok_store (by rw [evx_eq hx, hN]; exact hs) (by rw [evx_eq hx]; exact hg) ?_
  rw [evx_eq hx, evx_eq ha]
  cases u <;> simp only [wrX] at hw <;> try cases hw
  simp only [wrCells]
  rw [nthX_eq] at hw
  split at hw
  · rename_i cs hq
    rw [hq]
    split at hw
    · rename_i r hr
      obtain ⟨h1, rfl⟩ := setsX_eq _ _ _ _ hr
      obtain ⟨_, rfl⟩ := setX_eq _ _ _ _ hw
      simp only []
      rw [if_pos]
      rcases h1 with h | h
      · rw [h] at hN; simp at hN
      · exact h
    · cases hw
  · cases hw
theorem o_stp {N i ver j off z : Nat} {es : List AV} {el : AV} (hs : tsize P t = some (N + 1)) (hx : evx F x = some v) (hN : v.cells.length = N + 1) (hg : v.goodPart H = true) (ha : evx F a = some (.pel i ver j off)) (hH : H[i]? = some (.vec z ver es)) (he : es[j]? = some el)
    (ho : elemOk el v.cells = true) (hle : off + (N + 1) ≤ el.cells.length) : OpOk P (.store t a x) F H (.raw undef) (H.set i (.vec z ver (es.set j (putElem el off v.cells)))) := by
  refine ok_store (by rw [evx_eq hx, hN]; exact hs) (by rw [evx_eq hx]; exact hg) ?_
  rw [evx_eq hx, evx_eq ha]
  simp only [wrCells, hH, he, if_true]
  rw [if_pos ⟨by omega, by omega, ho⟩]

/-- Parts of a literal. -/
def partX (F : Frm) : List (Nat × Operand) → Option (List (Nat × AV))
  | [] => some []
  | (i, x) :: l => match evx F x with
    | some v => match partX F l with
      | some r => some ((i, v) :: r)
      | none => none
    | none => none
theorem partX_eq : ∀ (l : List (Nat × Operand)) (r : List (Nat × AV)), partX F l = some r → l.map (fun p => (p.1, ev F p.2)) = r
  | [], r, h => by cases h; rfl
  | (i, x) :: l, r, h => by
    simp only [partX] at h
    cases h1 : evx F x with
    | none => rw [h1] at h; cases h
    | some v =>
      rw [h1] at h
      cases h2 : partX F l with
      | none => rw [h2] at h; cases h
      | some r' => rw [h2] at h; cases h; rw [List.map_cons, partX_eq l r' h2, evx_eq h1]

/-- Cells of a struct's literal, filled. -/
def fillX (pl : List (Nat × Nat)) (H : Heap) : List AV → List (Nat × AV) → Option (List AV)
  | cells, [] => some cells
  | cells, (i, v) :: rest => match nthX pl i with
    | none => none
    | some (off, size) => bif v.cells.length.beq size && v.goodPart H && (off + size).ble cells.length then match setsX cells off v.cells with
      | some r => fillX pl H r rest
      | none => none else none
theorem fillX_eq (pl : List (Nat × Nat)) : ∀ (l : List (Nat × AV)) (cs out : List AV), fillX pl H cs l = some out → afill (pl[·]?) H cs l = some out
  | [], cs, out, h => by cases h; rfl
  | (i, v) :: l, cs, out, h => by
    simp only [fillX, nthX_eq] at h
    simp only [afill]
    cases hp : pl[i]? with
    | none => rw [hp] at h; cases h
    | some q =>
      obtain ⟨off, size⟩ := q
      rw [hp] at h
      simp only [] at h ⊢
      cases hc : (v.cells.length.beq size && v.goodPart H && (off + size).ble cs.length) with
      | false => rw [hc] at h; cases h
      | true =>
        rw [hc] at h
        simp only [Bool.and_eq_true, Nat.ble_eq] at hc
        rw [if_pos ⟨Nat.eq_of_beq_eq_true hc.1.1, hc.2, hc.1.2⟩]
        simp only [cond_true] at h
        cases hs : setsX cs off v.cells with
        | none => rw [hs] at h; cases h
        | some r =>
          rw [hs] at h
          obtain ⟨_, rfl⟩ := setsX_eq _ _ _ _ hs
          exact fillX_eq pl l _ out h
theorem o_bd {parts : Array (Nat × Operand)} {zs : List Value} {cs : List AV} {pl : List (Nat × Nat)} {ps : List (Nat × AV)} {out : List AV} (hz : tzero P t = some zs) (hc : rawsX zs = some cs) (hpl : structPlaces P t = some pl) (hps : partX F parts.toList = some ps)
    (hf : fillX pl H cs ps = some out) : OpOk P (.build t parts) F H (.agg out) H :=
  ok_build hz hpl (by rw [rawsX_eq _ _ hc, partX_eq _ _ hps]; exact fillX_eq pl _ _ _ hf)

def litX (H : Heap) (z : Nat) : List AV → List (Nat × AV) → Option (List AV)
  | es, [] => some es
  | es, (i, v) :: rest => bif v.cells.length.beq z && v.goodPart H then match setX es i v with
      | some r => litX H z r rest
      | none => none else none
theorem litX_eq {z : Nat} : ∀ (l : List (Nat × AV)) (cs out : List AV), litX H z cs l = some out → litElems P H e z cs l = some out
  | [], cs, out, h => by cases h; rfl
  | (i, v) :: l, cs, out, h => by
    simp only [litX] at h
    simp only [litElems]
    cases hc : (v.cells.length.beq z && v.goodPart H) with
    | false => rw [hc] at h; cases h
    | true =>
      rw [hc] at h
      simp only [Bool.and_eq_true] at hc
      simp only [cond_true] at h
      cases hs : setX cs i v with
      | none => rw [hs] at h; cases h
      | some r =>
        rw [hs] at h
        obtain ⟨hl, rfl⟩ := setX_eq _ _ _ _ hs
        rw [if_pos ⟨hl, Nat.eq_of_beq_eq_true hc.1, hc.2⟩]
        exact litX_eq l _ out h
def repX (x : AV) : Nat → Option (List AV)
  | 0 => some []
  | n + 1 => match repX x n with | some r => some (x :: r) | none => none
theorem repX_eq (x : AV) : ∀ (n : Nat) (r : List AV), repX x n = some r → List.replicate n x = r
  | 0, r, h => by cases h; rfl
  | n + 1, r, h => by
    simp only [repX] at h
    cases hq : repX x n with
    | none => rw [hq] at h; cases h
    | some r' => rw [hq] at h; cases h; rw [List.replicate_succ, repX_eq x n r' hq]

/-- What the literal of a row needs of its element's type. -/
structure ElemOk (P : Program) (t e : TypeId) (z : Nat) (zs : List Value) (x : AV) (bytes : Nat) : Prop where
  ht : sliceElem P t = some e
  hz : tsize P e = some z
  hzero : tzero P e = some zs
  hzl : zs.length = z
  hz0 : 0 < z
  hx : zeroAV P e = some x
  hraw : ∀ z ∈ zs, z.oneCell' = true
  hby : tbytes P e = some bytes

theorem o_bs {len z bytes : Nat} {zs : List Value} {x : AV} {parts : Array (Nat × Operand)} {ps : List (Nat × AV)} {rs es : List AV} (he : ElemOk P t e z zs x bytes) (hb : len * z ≤ 16777216) (hps : partX F parts.toList = some ps) (hr : repX x len = some rs) (hl : litX H z rs ps = some es) :
    OpOk P (.buildSlice t len parts) F H (.sl z true es) H :=
  ok_buildSlice he.ht he.hz he.hzero he.hzl he.hz0 he.hx he.hraw hb (by rw [partX_eq _ _ hps, repX_eq _ _ _ hr]; exact litX_eq _ _ _ hl)
theorem o_bso {len z bytes N : Nat} {zs : List Value} {x : AV} {parts : Array (Nat × Operand)} {ps : List (Nat × AV)} {rs es : List AV} (he : ElemOk P t e z zs x bytes) (hb : len * z ≤ 16777216) (hps : partX F parts.toList = some ps) (hr : repX x len = some rs) (hl : litX H z rs ps = some es)
    (hN : H.length = N) (hH : snocX H (.vec z 0 es) = some H') : OpOk P (.buildSlice t len parts) F H (.slo N 0 0 len) H' := by
  have := ok_buildSlice_own (F := F) (H := H) (len := len) (parts := parts) he.ht he.hz he.hzero he.hzl he.hz0 he.hx he.hraw hb (by rw [partX_eq _ _ hps, repX_eq _ _ _ hr]; exact litX_eq _ _ _ hl)
  rw [hN, snocX_eq _ _ _ hH] at this; exact this
theorem o_ms {l c : Operand} {z bytes N : Nat} {zs : List Value} {x : AV} {kl kc : IntKind} {n m : Int} (he : ElemOk P t e z zs x bytes) (hl : evx F l = some (.raw (.int kl n))) (hc : evx F c = some (.raw (.int kc m))) (h0 : 0 ≤ n) (hnm : n ≤ m)
    (hb : (bytes : Int) * m ≤ 281474976710656) (h63 : m ≤ 9223372036854775807) (hN : H.length = N) (hH : snocX H (.vec z 0 (List.replicate n.toNat x)) = some H') : OpOk P (.makeSlice t l c) F H (.slo N 0 0 n.toNat) H' := by
  have := ok_makeSlice (P := P) (F := F) (H := H) he.ht he.hz he.hby he.hzero he.hzl he.hz0 he.hx he.hraw (evx_eq hl) (evx_eq hc) h0 hnm hb h63
  rw [hN, snocX_eq _ _ _ hH] at this; exact this
theorem o_ap {q ver len z bytes ver' len' : Nat} {zs : List Value} {x0 : AV} {es new out : List AV} (he : ElemOk P t e z zs x0 bytes) (hs : evx F x = some (.slo q ver 0 len)) (hH : H[q]? = some (.vec z ver es)) (hlen : len = es.length) (hy : evx F y = some v) (hnew : srcElems H z v = some new)
    (hg : new.all (AV.goodPart H) = true) (hb : (es.length + new.length) * bytes ≤ 140737488355328) (h63 : es.length + new.length ≤ 9223372036854775807) (hver : ver + 1 = ver') (hlen' : len + new.length = len') (hout : es ++ new = out) (hH' : setX H q (.vec z ver' out) = some H') :
    OpOk P (.call { callee := .builtin .append, args := #[x, y], argTypes := #[t, t] }) F H (.slo q ver' 0 len') H' := by
  subst hver hlen' hout
  have := ok_append_slo (P := P) (F := F) (H := H) (s := x) (x := y) (t := t) he.ht he.hz he.hby he.hzero he.hzl (evx_eq hs) hH hlen (by rw [evx_eq hy]; exact hnew) hg hb h63
  rw [(setX_eq _ _ _ _ hH').2] at this; exact this
theorem o_apn {z bytes len' N : Nat} {zs : List Value} {x0 : AV} {new : List AV} (he : ElemOk P t e z zs x0 bytes) (hs : evx F x = some (.raw (.slice none 0 0))) (hy : evx F y = some v) (hnew : srcElems H z v = some new)
    (hg : new.all (AV.goodPart H) = true) (hb : new.length * bytes ≤ 140737488355328) (h63 : new.length ≤ 9223372036854775807) (hlen' : new.length = len') (hN : H.length = N) (hH' : snocX H (.vec z 1 new) = some H') :
    OpOk P (.call { callee := .builtin .append, args := #[x, y], argTypes := #[t, t] }) F H (.slo N 1 0 len') H' := by
  subst hlen'
  have := ok_append_nil (P := P) (F := F) (H := H) (s := x) (x := y) (t := t) he.ht he.hz he.hz0 he.hby he.hzero he.hzl (evx_eq hs) (by rw [evx_eq hy]; exact hnew) hg hb h63
  rw [hN, snocX_eq _ _ _ hH'] at this; exact this
end
end Go.Ab
namespace Go.Ab
open Go

section
variable {P : Program} {G : List (Nat × List Value)} {F : Frm} {H H' : Heap} {t e : TypeId} {k : IntKind} {n : Int}

def arrElem (P : Program) (t : TypeId) : Option (Nat × TypeId) := match P.underlying t with | some (.array n e) => some (n, e) | _ => none
theorem arrElem_spec {t e : TypeId} {n : Nat} (h : arrElem P t = some (n, e)) : P.underlying t = some (.array n e) := by
  unfold arrElem at h; split at h <;> simp at h; obtain ⟨rfl, rfl⟩ := h; assumption

/-- An entry of a table that stands as it stood. -/
theorem o_ixg {g : Nat} {i : Operand} {j N : Nat} {cs : List Value} (ht : arrElem P t = some (N, e)) (hz : tsize P e = some 1) (hG : (g, cs) ∈ G) (hi : evx F i = some (.raw (.int k n))) (hn : n = (j : Int)) (hj : j < N) (hN : N = cs.length) {v : Value} (hv : cs.getD j undef = v) :
    OpG P G (.indexAddr t (.global g) i) F H (.rp [.raw v]) H := by
  intro K C ρ oo hK ho hp hH hρ
  subst hK hn hN hv
  have hj' : ρ i = .int k j := Vl.raw_inv (evx_eq hi ▸ hρ i)
  have hg : ρ (.global g) = .pointer (some ⟨g, 0, none⟩) := Vl.raw_inv (hρ (.global g))
  have hv := hp.glob g cs hG
  cases hv with
  | rp f hb hs hc hx =>
    refine ⟨.value (.pointer (some ⟨g, 0 + j, none⟩)), _, C, ?_, .inl rfl, Ext.refl C, hp, .rp (fun q => f (j + q)) hb hs (fun q hq => ?_) (fun q x hq => ?_), hH⟩
    · have h1 : (0 : Int) ≤ j ∧ (j : Int) < (cs.length : Int) := by omega
      simp only [execOp, ho, hg, hj', Instr.indexAt, asIntOf, Sem.run_bind, Sem.run_pure, Result.andThen_ok, run_underlying (arrElem_spec ht), tsize_run hz, Instr.sureAddr, h1, and_self, if_true, add_none, Nat.mul_one, Int.toNat_natCast]
    · have := hc (j + q) (by simp at hq ⊢; omega)
      simpa [Nat.add_assoc] using this
    · cases q with
      | zero =>
        simp at hq; subst hq
        exact hx j _ (by simp [hj])
      | succ q => simp at hq

/-! ### how a function ends -/
/-- What a result variable holds. -/
def RV (P : Program) (F : Frm) (H : Heap) : ResultVar → AV → Prop
  | .tmp t, x => evx F (.tmp t) = some x
  | .cell a t, x => rdVar P t H (ev F (.tmp a)) = some x
def RVs (P : Program) (F : Frm) (H : Heap) : List ResultVar → List AV → Prop
  | [], [] => True
  | r :: rs, x :: xs => RV P F H r x ∧ RVs P F H rs xs
  | _, _ => False
theorem RVs.eq : ∀ {rs : List ResultVar} {xs : List AV}, RVs P F H rs xs → resList P F H rs = some xs
  | [], [], _ => rfl
  | [], _ :: _, h => h.elim
  | _ :: _, [], h => h.elim
  | r :: rs, x :: xs, h => by
    have h1 : resVar P F H r = some x := by
      cases r with
      | tmp t => have h0 : evx F (.tmp t) = some x := h.1; simp only [resVar, evx_eq h0]
      | cell a t => exact h.1
    simp only [resList, h1, RVs.eq h.2]

theorem c_ag {a N : Nat} {u : AV} {cs : List AV} (hg : tagg P t = some true) (hn : tsize P t = some N) (hx : evx F (.tmp a) = some u) (h : rdX H u N = some cs) : RV P F H (.cell a t) (.agg cs) := by
  simp only [RV, rdVar, hg, hn, evx_eq hx, rdX_eq h, Option.map_some]
theorem c_one {a : Nat} {u v : AV} (hg : tagg P t = some false) (hx : evx F (.tmp a) = some u) (h : rdX H u 1 = some [v]) : RV P F H (.cell a t) v := by
  simp only [RV, rdVar, hg, evx_eq hx, rdX_eq h, Option.bind_some]; rfl

variable {fn : Func} {R : AV → Heap → Prop} {rs : List ResultVar}
theorem r_one {x : AV} (hrs : fn.results.toList = rs) (h : RVs P F H rs [x]) (hR : R x H) : retQ P fn R .ret F H := ⟨x, by rw [resOf, hrs, h.eq], hR⟩
theorem r_tup {x y : AV} {xs : List AV} (hrs : fn.results.toList = rs) (h : RVs P F H rs (x :: y :: xs)) (hR : R (.tup (x :: y :: xs)) H) : retQ P fn R .ret F H := ⟨_, by rw [resOf, hrs, h.eq], hR⟩
theorem r_none (hrs : fn.results.toList = rs) (h : RVs P F H rs []) (hR : R (.tup []) H) : retQ P fn R .ret F H := ⟨_, by rw [resOf, hrs, h.eq], hR⟩
theorem r_norm (h : retQ P fn R .ret F H) : retQ P fn R .normal F H := h

/-- Own memory is let go with the call's end; what is answered is told as data. -/
theorem acall_free {f : FuncId} {args : List AV} {r : AV} (h : ACall P G f args [] (fun r' H' => Rs H' (fun _ => False) r' r)) : ACall P G f args [] (fun r' H' => r' = r ∧ H' = []) := by
  intro C vs hH hp ha
  refine (h C vs hH hp ha).mono ?_
  rintro e w' ⟨r', v, C', rfl, rfl, hp', hv, hR⟩
  have hw : Weak (fun _ => False) C' (bare C' C'.X) :=
    { w := rfl, lnt := fun b h => .inl h, bad := fun b hb h => hb (.inl (bare_bad h)), free := fun i b hi _ hb h => hp'.xown b (bare_bad h) ⟨i, hi, hb⟩, lt := fun _ h => h.elim
      var := fun _ _ h => h.elim, mapo := fun _ _ h => h.elim, loopo := fun _ _ h => h.elim, vec := fun _ _ _ _ h => h.elim }
  have hX : C'.X = C.X := hp'.X
  have hno : ∀ b, ¬ C.own b := fun b ⟨i, hi, _⟩ => by rw [hH] at hi; simp at hi
  refine ⟨r, v, bare C' C'.X, rfl, rfl, ?_, hR.vl hw hp' v hv, rfl, rfl⟩
  exact
    { X := hX, xown := fun b _ ⟨i, hi, _⟩ => by simp [bare] at hi
      xlt := hp'.xlt
      L := hp'.L
      lown := fun b _ ⟨i, hi, _⟩ => by simp [bare] at hi
      llt := hp'.llt
      inj := fun i _ _ hi _ _ _ => by simp [bare] at hi
      lt := fun i _ hi _ => by simp [bare] at hi
      obj := fun i o h => by simp [bare] at h
      ext :=
        { len := by show C.H.length ≤ 0; rw [hH]; simp
          lnt := hp'.ext.lnt
          pers := fun b h1 h2 => ⟨(hp'.ext.pers b h1 h2).1, fun hb => (hp'.ext.pers b h1 h2).2 (.inl (bare_bad hb))⟩
          var := fun i cs h => by simp [hH] at h
          mapo := fun i cs h => by simp [hH] at h
          loopo := fun i cs h => by simp [hH] at h
          vec := fun i z v' es' h _ => by simp [hH] at h }
      os := hp'.os, tape := hp'.tape, output := hp'.output, size := hp'.size, same := hp'.same
      ownn := fun b ⟨i, hi, _⟩ => by simp [bare] at hi
      glob := fun g cs hg => by
        have hpu : Pur (.rp (cs.map .raw)) := by simp
        exact hpu.vl (C := C') (C' := bare C' C'.X) rfl (fun b hb h => hb (.inl (bare_bad h))) (fun b _ h => h) _ (hp'.glob g cs hg) }

/-- A function from data to data. -/
theorem pure_of_body {f : FuncId} {c : Code} {args : List AV} {r : AV} (hf : P.funcs[f]? = some fn) (hb : fn.body = some c) (hn : args.length ≤ fn.ntmps) (ha : ∀ x ∈ args, Pur x) (hr : Pur r)
    (h : AWp ⟨P, G, 0, fn.ntmps, false⟩ c (retQ P fn (fun r' H' => Rs H' (fun _ => False) r' r)) (argsFrm 0 args) []) : PureCall P G f args r :=
  ⟨ha, hr, acall_free (acall_of_body hf hb hn h)⟩

/-! ### own memory, told as data -/
variable {keep : Nat → Prop}
theorem rs_pur {x y : AV} (h : Pur y) (e : x = y) : Rs H keep x y := by subst e; exact h.rs
theorem rs_dec {b : Bool} {p : Prop} [Decidable p] (h : b = true ↔ p) : Rs H keep (.raw (.bool b)) (.raw (.bool (decide p))) := by
  have : b = decide p := by cases b <;> simp_all
  rw [this]; exact .raw _
theorem rs_int {κ : IntKind} {a b : Int} (h : a = b) : Rs H keep (.raw (.int κ a)) (.raw (.int κ b)) := by subst h; exact .raw _
def RsL (H : Heap) (keep : Nat → Prop) : List AV → List AV → Prop
  | [], [] => True
  | x :: xs, y :: ys => Rs H keep x y ∧ RsL H keep xs ys
  | _, _ => False
theorem RsL.len : ∀ {xs ys : List AV}, RsL H keep xs ys → ys.length = xs.length
  | [], [], _ => rfl
  | [], _ :: _, h => h.elim
  | _ :: _, [], h => h.elim
  | x :: xs, y :: ys, h => by simp [RsL.len h.2]
theorem RsL.get : ∀ {xs ys : List AV}, RsL H keep xs ys → ∀ (k : Nat) (x y : AV), xs[k]? = some x → ys[k]? = some y → Rs H keep x y
  | [], _, h, k, x, y, hx, _ => by simp at hx
  | _ :: _, [], h, k, x, y, _, hy => by simp at hy
  | x :: xs, y :: ys, h, 0, _, _, hx, hy => by simp at hx hy; subst hx; subst hy; exact h.1
  | x :: xs, y :: ys, h, k + 1, _, _, hx, hy => RsL.get h.2 k _ _ (by simpa using hx) (by simpa using hy)
theorem rs_agg {xs ys : List AV} (h : RsL H keep xs ys) : Rs H keep (.agg xs) (.agg ys) := .agg h.len h.get
theorem rs_tup {xs ys : List AV} (h : RsL H keep xs ys) : Rs H keep (.tup xs) (.tup ys) := .tup h.len h.get
theorem rs_fn {f : FuncId} {a a' b b' : List AV} (h1 : RsL H keep a a') (h2 : RsL H keep b b') : Rs H keep (.fn f a b) (.fn f a' b') := .fn h1.len h2.len h1.get h2.get
theorem rs_ptr {i off : Nat} {cs r cs' : List AV} (hk : ¬ keep i) (h : nthX H i = some (.var cs)) (hd : dropX off cs = some r) (hl : RsL H keep r cs') : Rs H keep (.ptr i off) (.rp cs') := by
  obtain ⟨h1, rfl⟩ := dropX_eq _ _ _ hd
  refine .ptr hk ((nthX_eq _ _).symm.trans h) ?_ hl.get
  have := hl.len; simp at this; omega
/-- An own row of pure data. -/
theorem rs_slo {i ver len z : Nat} {es es' : List AV} (hk : ¬ keep i) (h : H[i]? = some (.vec z ver es)) (hl : len = es.length) (hp : ∀ x ∈ es', Pur x) (he : es' = es) : Rs H keep (.slo i ver 0 len) (.sl z false es') := by
  subst hl he
  exact .slo hk h (by simp) rfl (fun k x x' h1 h2 => by rw [List.drop_zero] at h1; rw [h1] at h2; cases h2; rfl) (fun k x x' h1 h2 => by rw [List.drop_zero] at h1; rw [h1] at h2; cases h2; exact (hp x (mem_get h1)).rs)
theorem rs_full {z : Nat} {es : List AV} (hp : ∀ x ∈ es, Pur x) : Rs H keep (.sl z true es) (.sl z false es) :=
  .sl ⟨by simp, id⟩ rfl (fun k x x' h1 h2 => by rw [h1] at h2; cases h2; rfl) (fun k x x' h1 h2 => by rw [h1] at h2; cases h2; exact (hp x (mem_get h1)).rs)

/-- A call that is lent own memory as data. -/
theorem a_lend {E : Env} {ops : Array Oper} {Q : Frm → Heap → Prop} {rest : List Oper} {F : Frm} {H : Heap} {d : Tmp} {t : TypeId} {p : String} {af : Array Edge} {g : Option (Nat × Bool)}
    {c : Operand} {xs : Array Operand} {tys : Array TypeId} {f : FuncId} {first caps vs vs' : List AV} {r : AV} (hg : gd ops F g = some true) (hc : evx F c = some (.fn f first caps)) (hx : evs F xs.toList = some vs) (hca : callable E.P f = true)
    (h : PureCall E.P E.G f vs' r) (hrs : RsL H (fun _ => False) (first ++ vs ++ caps) vs') (hf : Flt r) (k : AOps E ops Q rest ((d, r) :: F) H) :
    AOps E ops Q (⟨some d, .call { callee := .value c, args := xs, argTypes := tys }, t, p, af, g⟩ :: rest) F H :=
  a_step hg (callP rfl hc hx hca (CallS.lend (R := (· = r)) hrs.len hrs.get (fun _ e => e ▸ hf) h.call) (by rintro r H' ⟨rfl, rfl⟩; exact k))
theorem a_lendb {E : Env} {ops : Array Oper} {Q : Frm → Heap → Prop} {rest : List Oper} {F : Frm} {H : Heap} {d : Tmp} {t : TypeId} {p : String} {af : Array Edge} {g : Option (Nat × Bool)}
    {c : Operand} {xs : Array Operand} {tys : Array TypeId} {f : FuncId} {first caps vs vs' : List AV} {b : Bool} (hg : gd ops F g = some true) (hc : evx F c = some (.fn f first caps)) (hx : evs F xs.toList = some vs) (hca : callable E.P f = true)
    (h : PureCall E.P E.G f vs' (.raw (.bool b))) (hrs : RsL H (fun _ => False) (first ++ vs ++ caps) vs') (kt : b = true → AOps E ops Q rest ((d, .raw (.bool true)) :: F) H) (kf : b = false → AOps E ops Q rest ((d, .raw (.bool false)) :: F) H) :
    AOps E ops Q (⟨some d, .call { callee := .value c, args := xs, argTypes := tys }, t, p, af, g⟩ :: rest) F H := by
  refine a_lend hg hc hx hca h hrs (by simp) ?_
  cases b
  · exact kf rfl
  · exact kt rfl

/-- Behind the last use own memory is let go. -/
theorem w_bare {E : Env} {c : Code} {Q : Exit → Frm → Heap → Prop} (h0 : E.n0 = 0) (F1 : Frm) (hs : Sub F1 F) (hp : ∀ k x, F1.lookup k = some x → Rs H (fun _ => False) x x) (h : AWp E c Q F1 []) : AWp E c Q F H := by
  refine awp_view (fun _ => False) (F' := F1) (H' := []) ?_ h
  exact
    { fr := fun k x' hk => by rw [hs.look k x' hk]; exact hp k x' hk
      len := by simp
      low := by simp [h0]
      k0 := fun i hi => by omega
      dead := fun i hi => by simp at hi
      lt := fun i hi => hi.elim
      obj := fun i o o' hi => hi.elim }

theorem lookup_all {F1 : Frm} {p : AV → Prop} (h : ∀ kx ∈ F1, p kx.2) : ∀ k x, F1.lookup k = some x → p x := by
  intro k x hk
  induction F1 with
  | nil => simp at hk
  | cons a F1 ih =>
    obtain ⟨k', x'⟩ := a
    simp only [List.lookup_cons] at hk
    split at hk
    · cases hk; exact h _ (List.mem_cons_self ..)
    · exact ih (fun y hy => h y (by simp [hy])) hk
end
end Go.Ab

namespace Go.Ab
open Go
/-- A piece of a code, by its place. -/
def subCode : List Nat → Code → Code
  | [], c => c
  | i :: p, .seq x y => subCode p (match i with | 0 => x | _ => y)
  | i :: p, .cond _ x y => subCode p (match i with | 0 => x | _ => y)
  | _ :: p, .block _ c => subCode p c
  | _ :: p, .loop c => subCode p c
  | i :: p, .rangeFunc _ _ x y => subCode p (match i with | 0 => x | _ => y)
  | _, c => c
def opers : Code → Array Oper
  | .region _ ops _ => ops
  | _ => #[]
def opsAt (f : Func) (p : List Nat) : Array Oper := match f.body with | some c => opers (subCode p c) | none => #[]

theorem ixm {α : Type} (f : α → AV) (l : List α) (n : Nat) (h : n < l.length) : (l.map f)[n]? = some (f (l[n]'h)) := by simp [h]
end Go.Ab
namespace Go.Ab
open Go

/-! ## Regions whose order is drawn -/

/-- A step with one outcome. -/
inductive OpD (E : Env) (o : Oper) (F : Frm) (H : Heap) (v : AV) (H' : Heap) : Prop
  | op (h : OpG E.P E.G o.op F H v H')
  | call (g : Operand) (args : Array Operand) (tys : Array TypeId) (f : FuncId) (first caps vs : List AV) (ho : o.op = .call { callee := .value g, args := args, argTypes := tys })
      (hg : evx F g = some (.fn f first caps)) (hx : evs F args.toList = some vs) (hc : callable E.P f = true) (hr : CallS E.P E.G f (first ++ vs ++ caps) H (fun r H'' => r = v ∧ H'' = H'))

theorem opd_run {E : Env} {o : Oper} {F : Frm} {H H' : Heap} {v : AV} (h : OpD E o F H v H') (hnd : noDefer o.op = true)
    {K : Kon} {C : Ctx} {a : Act} (hG : K.G = E.G) (hp : Hp K C) (hfr : FrOk C F a.tmps) (hH : C.H = H) (Q : Exit → Act → World → Prop) :
    o.wpIn (rnd K.rb) 0 E.P a C.w (fun a' w' => ∃ u C', a' = a.put o.dst u ∧ C'.w = w' ∧ Ext C C' ∧ Hp K C' ∧ Vl C' v u ∧ C'.H = H') Q := by
  refine ⟨fun _ _ => trivial, ?_⟩
  have hsem : o.semAt (rnd K.rb).round a.eval = execOp a.eval o := Oper.semAt_eq _ _ _ (fun c hc => by rw [hc] at hnd; cases hnd)
  rw [hsem]
  cases h with
  | op h =>
    obtain ⟨n, u, C', h1, h2, h3, h4, h5, h6⟩ := h K C a.eval o hG rfl hp hH (ev_ok hfr)
    rw [h1]
    rcases h2 with rfl | ⟨rfl, rfl⟩
    · exact ⟨u, C', rfl, rfl, h3, h4, h5, h6⟩
    · exact ⟨undef, C', rfl, rfl, h3, h4, h5, h6⟩
  | call g args tys f first caps vs ho hg hx hc hr =>
    have hv := evx_eq hg ▸ ev_ok hfr g
    generalize hgv : a.eval g = gv at hv
    cases hv with
    | fn h1 h2 hf hcp =>
      rename_i fv cv
      have hrun : (execOp a.eval o).run E.P C.w = .ok (.enter f (fv ++ args.map a.eval ++ cv)) C.w := by
        simp only [execOp, ho, resolve, hgv, Deferred.ofValue, Sem.run_bind, Sem.run_pure, Result.andThen_ok, invoke, callable_run hc]
      rw [hrun]
      refine ⟨fun h => by simp [rnd, Fence.wide] at h, ?_⟩
      have := hr K C _ hG hH hp (by rw [← evs_eq hx]; exact args_ok (ev_ok hfr) args h1 h2 hf hcp)
      refine callsIn_rnd (this.mono ?_)
      rintro e w' ⟨r, u, C', rfl, rfl, g1, g2, g3, rfl, g4⟩
      exact ⟨u, C', rfl, rfl, g1, g2, g3, g4⟩

/-- Of a frame what an operation looks at. -/
def restr (F : Frm) : List Tmp → Frm
  | [] => []
  | t :: ts => match look F t with
    | some v => (t, v) :: restr F ts
    | none => restr F ts

theorem restr_lookup (F : Frm) : ∀ (ts : List Tmp) (k : Nat) (x : AV), (restr F ts).lookup k = some x → k ∈ ts ∧ ev F (.tmp k) = x
  | [], k, x, h => by simp [restr] at h
  | t :: ts, k, x, h => by
    simp only [restr] at h
    cases hl : look F t with
    | none => rw [hl] at h; have := restr_lookup F ts k x h; exact ⟨by simp [this.1], this.2⟩
    | some v =>
      rw [hl] at h
      simp only [List.lookup_cons] at h
      split at h
      · rename_i hk
        have : k = t := by simpa using hk
        subst this
        cases h
        exact ⟨by simp, by rw [look_eq] at hl; simp [ev, hl]⟩
      · have := restr_lookup F ts k x h; exact ⟨by simp [this.1], this.2⟩

/-- A heap of which only some objects are known. -/
def msk (ks : List Nat) (y : Nat → AObj) : Nat → Heap → Heap
  | _, [] => []
  | k, o :: l => (bif ks.any (Nat.beq k) then o else y k) :: msk ks y (k + 1) l

theorem any_beq {ks : List Nat} {k : Nat} : ks.any (Nat.beq k) = decide (k ∈ ks) := by
  induction ks with
  | nil => simp
  | cons a ks ih =>
    simp only [List.any_cons, ih]
    by_cases h : k = a
    · subst h; simp
    · have : Nat.beq k a = false := by
        cases hb : Nat.beq k a with
        | false => rfl
        | true => exact absurd (Nat.eq_of_beq_eq_true hb) h
      simp [this, h]

theorem msk_get (ks : List Nat) (y : Nat → AObj) : ∀ (k : Nat) (H : Heap) (j : Nat), (msk ks y k H)[j]? = (H[j]?).map (fun o => if k + j ∈ ks then o else y (k + j))
  | k, [], j => by simp [msk]
  | k, o :: l, 0 => by
    simp only [msk, any_beq]
    by_cases h : k ∈ ks <;> simp [h]
  | k, o :: l, j + 1 => by
    simp only [msk, List.getElem?_cons_succ, msk_get ks y (k + 1) l j]
    rw [show k + 1 + j = k + (j + 1) by omega]

def upd1 (up : Option (Nat × AObj)) (H : Heap) : Heap := match up with | some (i, o) => H.set i o | none => H

/-- What is said beside the operations: on which each rests, which slots it looks at, which objects it knows, which it turns. -/
structure Plan where
  dep : List (List Nat)
  lks : List (List Tmp)
  ks : List (List Nat)
  wr : List (Option Nat)

def Plan.depOf (p : Plan) (i : Nat) : List Nat := p.dep.getD i []
def Plan.lksOf (p : Plan) (i : Nat) : List Tmp := p.lks.getD i []
def Plan.ksOf (p : Plan) (i : Nat) : List Nat := p.ks.getD i []
def Plan.wrOf (p : Plan) (i : Nat) : Option Nat := p.wr.getD i none

def Plan.ok (p : Plan) (ops : Array Oper) : Bool :=
  (List.range ops.size).all fun i => match ops[i]? with
    | none => false
    | some o =>
      o.after.toList.all (fun e => !Region.binds .any e || e.on.blt i) &&
      (p.depOf i).all (fun j => o.after.toList.any fun e => Region.binds .any e && (e.on == j || (p.depOf e.on).contains j)) &&
      (p.lksOf i).all (fun t => (o.looksAt ops).contains t) &&
      (List.range i).all fun j => match ops[j]? with
        | none => false
        | some q => (p.depOf i).contains j || (o.apart ops q && (match p.wrOf i with | some k => !(p.ksOf j).contains k | none => true) && (match p.wrOf j with | some k => !(p.ksOf i).contains k | none => true))

/-- The operations in the order in which they stand, each with what it looks at alone. -/
def DOps (E : Env) (ops : Array Oper) (p : Plan) (Q : Frm → Heap → Prop) : Nat → List Oper → Frm → Heap → Prop
  | _, [], F, H => Q F H
  | i, o :: rest, F, H => ∃ w, gd ops (restr F (p.lksOf i)) o.guard = some w ∧
      (w = true → ∃ v up H', (∀ y, OpD E o (restr F (p.lksOf i)) (msk (p.ksOf i) y 0 H) v (upd1 up (msk (p.ksOf i) y 0 H))) ∧
        (match up with | some (k, ob) => p.wrOf i = some k ∧ k ∈ p.ksOf i ∧ H.set k ob = H' | none => H = H') ∧ DOps E ops p Q (i + 1) rest (put F o.dst v) H') ∧
      (w = false → DOps E ops p Q (i + 1) rest (put F o.dst (.raw undef)) H)
end Go.Ab

namespace Go.Ab
open Go

/-- What the run in order tells. -/
structure Data (E : Env) (ops : Array Oper) (p : Plan) (fr : Nat → Frm) (hp : Nat → Heap) (val : Nat → AV) (up : Nat → Option (Nat × AObj)) (w : Nat → Bool) (k : Nat) (o : Oper) : Prop where
  ho : ops[k]? = some o
  fr' : fr (k + 1) = put (fr k) o.dst (val k)
  hp' : hp (k + 1) = upd1 (up k) (hp k)
  g : gd ops (restr (fr k) (p.lksOf k)) o.guard = some (w k)
  st : w k = true → ∀ y, OpD E o (restr (fr k) (p.lksOf k)) (msk (p.ksOf k) y 0 (hp k)) (val k) (upd1 (up k) (msk (p.ksOf k) y 0 (hp k)))
  off : w k = false → val k = .raw undef ∧ up k = none
  wr : ∀ j ob, up k = some (j, ob) → p.wrOf k = some j ∧ j ∈ p.ksOf k

theorem dops_data {E : Env} {ops : Array Oper} {p : Plan} {Q : Frm → Heap → Prop} : ∀ (l : List Oper) (i : Nat) (F : Frm) (H : Heap), DOps E ops p Q i l F H → (∀ j, l[j]? = ops[i + j]?) → i + l.length = ops.size →
    ∃ (fr : Nat → Frm) (hp : Nat → Heap) (val : Nat → AV) (up : Nat → Option (Nat × AObj)) (w : Nat → Bool), fr i = F ∧ hp i = H ∧ Q (fr ops.size) (hp ops.size) ∧
      ∀ k, i ≤ k → k < ops.size → ∃ o, Data E ops p fr hp val up w k o
  | [], i, F, H, h, hl, hs => by
    simp at hs; subst hs
    exact ⟨fun _ => F, fun _ => H, fun _ => .any, fun _ => none, fun _ => false, rfl, rfl, h, fun k h1 h2 => by omega⟩
  | o :: l, i, F, H, h, hl, hs => by
    obtain ⟨w0, hg, ht, hf⟩ := h
    have hl' : ∀ j, l[j]? = ops[i + 1 + j]? := fun j => by have := hl (j + 1); simpa [Nat.add_assoc, Nat.add_comm 1 j] using this
    have hs' : i + 1 + l.length = ops.size := by simp at hs; omega
    have ho : ops[i]? = some o := by simpa using (hl 0).symm
    have key : ∀ (v : AV) (u : Option (Nat × AObj)), (w0 = true → ∀ y, OpD E o (restr F (p.lksOf i)) (msk (p.ksOf i) y 0 H) v (upd1 u (msk (p.ksOf i) y 0 H))) → (w0 = false → v = .raw undef ∧ u = none) →
        (∀ j ob, u = some (j, ob) → p.wrOf i = some j ∧ j ∈ p.ksOf i) → DOps E ops p Q (i + 1) l (put F o.dst v) (upd1 u H) →
        ∃ (fr : Nat → Frm) (hp : Nat → Heap) (val : Nat → AV) (up : Nat → Option (Nat × AObj)) (w : Nat → Bool), fr i = F ∧ hp i = H ∧ Q (fr ops.size) (hp ops.size) ∧
          ∀ k, i ≤ k → k < ops.size → ∃ o, Data E ops p fr hp val up w k o := by
      intro v u h1 h2 h3 h4
      obtain ⟨fr, hp, val, up, w, e1, e2, e3, e4⟩ := dops_data l (i + 1) _ _ h4 hl' hs'
      refine ⟨fun k => if k = i then F else fr k, fun k => if k = i then H else hp k, fun k => if k = i then v else val k, fun k => if k = i then u else up k, fun k => if k = i then w0 else w k, by simp, by simp, ?_, fun k hk hkn => ?_⟩
      · have : ops.size ≠ i := by omega
        simp [this]; exact e3
      · by_cases hki : k = i
        · subst hki
          exact ⟨o, { ho := ho, fr' := by simp [e1], hp' := by simp [e2], g := by simpa using hg, st := by simpa using h1, off := by simpa using h2, wr := by simpa using h3 }⟩
        · obtain ⟨o', d⟩ := e4 k (by omega) hkn
          have hki' : k + 1 ≠ i := by omega
          exact ⟨o', { ho := d.ho, fr' := by simp [hki, hki']; exact d.fr', hp' := by simp [hki, hki']; exact d.hp', g := by simp [hki]; exact d.g, st := by simp [hki]; exact d.st, off := by simp [hki]; exact d.off, wr := by simp [hki]; exact d.wr }⟩
    cases w0 with
    | false => exact key (.raw undef) none (fun h => by cases h) (fun _ => ⟨rfl, rfl⟩) (fun _ _ h => by cases h) (hf rfl)
    | true =>
      obtain ⟨v, u, H', a1, a2, a3⟩ := ht rfl
      refine key v u (fun _ => a1) (fun h => by cases h) (fun j ob hu => ?_) ?_
      · subst hu; exact ⟨a2.1, a2.2.1⟩
      · cases u with
        | none => simp only [upd1]; simp only at a2; rw [a2]; exact a3
        | some q => obtain ⟨k, ob⟩ := q; simp only [upd1]; rw [a2.2.2]; exact a3

/-- The last that is put into a slot. -/
def sl (dst : Nat → Option Tmp) (val : Nat → AV) (S : Nat → Bool) (x0 : AV) (t : Tmp) : Nat → AV
  | 0 => x0
  | m + 1 => if S m = true ∧ dst m = some t then val m else sl dst val S x0 t m
/-- The last that an object turns to. -/
def ob (up : Nat → Option (Nat × AObj)) (S : Nat → Bool) (x0 : Option AObj) (j : Nat) : Nat → Option AObj
  | 0 => x0
  | m + 1 => match up m with
    | some (k, o) => if S m = true ∧ k = j then some o else ob up S x0 j m
    | none => ob up S x0 j m

section
variable {dst : Nat → Option Tmp} {val : Nat → AV} {S S' : Nat → Bool} {x0 : AV} {t : Tmp} {up : Nat → Option (Nat × AObj)} {y0 : Option AObj} {j : Nat}
theorem sl_congr : ∀ {m : Nat}, (∀ k, k < m → dst k = some t → S k = S' k) → sl dst val S x0 t m = sl dst val S' x0 t m
  | 0, _ => rfl
  | m + 1, h => by
    simp only [sl]
    rw [sl_congr (m := m) (fun k hk => h k (by omega))]
    by_cases hd : dst m = some t
    · rw [h m (by omega) hd]
    · simp [hd]
theorem sl_cut {m : Nat} (i : Nat) (h : ∀ k, i ≤ k → k < m → dst k = some t → S k = false) (hi : i ≤ m) : sl dst val S x0 t m = sl dst val S x0 t i := by
  induction m with
  | zero => have : i = 0 := by omega
            subst this; rfl
  | succ m ih =>
    by_cases him : i = m + 1
    · subst him; rfl
    · simp only [sl]
      rw [if_neg, ih (fun k h1 h2 => h k h1 (by omega)) (by omega)]
      rintro ⟨h1, h2⟩
      rw [h m (by omega) (by omega) h2] at h1; cases h1
theorem ob_congr : ∀ {m : Nat}, (∀ k o, k < m → up k = some (j, o) → S k = S' k) → ob up S y0 j m = ob up S' y0 j m
  | 0, _ => rfl
  | m + 1, h => by
    simp only [ob]
    rw [ob_congr (m := m) (fun k o hk => h k o (by omega))]
    cases hu : up m with
    | none => rfl
    | some q =>
      obtain ⟨k, o⟩ := q
      simp only
      by_cases hkj : k = j
      · subst hkj; rw [h m o (by omega) hu]
      · simp [hkj]
theorem ob_cut {m : Nat} (i : Nat) (h : ∀ k o, i ≤ k → k < m → up k = some (j, o) → S k = false) (hi : i ≤ m) : ob up S y0 j m = ob up S y0 j i := by
  induction m with
  | zero => have : i = 0 := by omega
            subst this; rfl
  | succ m ih =>
    by_cases him : i = m + 1
    · subst him; rfl
    · simp only [ob]
      rw [ih (fun k o h1 h2 => h k o h1 (by omega)) (by omega)]
      cases hu : up m with
      | none => rfl
      | some q =>
        obtain ⟨k, o⟩ := q
        simp only
        rw [if_neg]
        rintro ⟨h1, rfl⟩
        rw [h m o (by omega) (by omega) hu] at h1; cases h1
end

theorem countP_lt {p q : Nat → Bool} {i : Nat} : ∀ (l : List Nat), (∀ x, p x = true → q x = true) → i ∈ l → q i = true → p i = false → l.countP p < l.countP q
  | [], _, h, _, _ => by cases h
  | a :: l, hpq, hi, h1, h2 => by
    simp only [List.countP_cons]
    rcases List.mem_cons.1 hi with rfl | hi
    · have := List.countP_mono_left (p := p) (q := q) (l := l) (fun x _ => hpq x)
      rw [h1, h2]; simp; omega
    · have := countP_lt l hpq hi h1 h2
      have : (if p a = true then 1 else 0) ≤ (if q a = true then 1 else 0) := by
        by_cases h : p a = true
        · simp [h, hpq a h]
        · simp [h]
      omega
end Go.Ab
