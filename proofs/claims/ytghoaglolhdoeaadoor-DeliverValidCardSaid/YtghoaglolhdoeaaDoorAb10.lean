/- A program logic over the model: contracts of calls, proved from the model alone, without conditions. -/
import Derived.Test.YtghoaglolhdoeaaDoorAb9
set_option linter.unusedSimpArgs false
set_option linter.unusedVariables false
namespace Go.Ab
open Go

def splice {α : Type} (l : List α) (off : Nat) (xs : List α) : List α := l.take off ++ xs ++ l.drop (off + xs.length)

theorem splice_length {α : Type} (l : List α) (off : Nat) (xs : List α) (h : off + xs.length ≤ l.length) : (splice l off xs).length = l.length := by
  unfold splice; simp; omega

theorem splice_get {α : Type} (l : List α) (off : Nat) (xs : List α) (h : off + xs.length ≤ l.length) (k : Nat) :
    (splice l off xs)[k]? = if off ≤ k ∧ k < off + xs.length then xs[k - off]? else l[k]? := by
  unfold splice
  rcases Nat.lt_or_ge k off with h1 | h1
  · rw [if_neg (by omega), List.append_assoc, List.getElem?_append_left (by simp; omega), List.getElem?_take_of_lt h1]
  · rcases Nat.lt_or_ge k (off + xs.length) with h2 | h2
    · rw [if_pos ⟨h1, h2⟩, List.getElem?_append_left (by simp; omega), List.getElem?_append_right (by simp; omega)]
      congr 1; simp; omega
    · rw [if_neg (by omega), List.getElem?_append_right (by simp; omega), List.getElem?_drop]
      congr 1; simp; omega

theorem flat_upd {z : Nat} : ∀ (es : List AV) (j : Nat) (e e' : AV) (off : Nat) (xs : List AV), (∀ e ∈ es, e.cells.length = z) → es[j]? = some e → off + xs.length ≤ z →
    (∀ k, e'.cells[k]? = if off ≤ k ∧ k < off + xs.length then xs[k - off]? else e.cells[k]?) →
    ∀ q, (flat (es.set j e'))[q]? = if j * z + off ≤ q ∧ q < j * z + off + xs.length then xs[q - (j * z + off)]? else (flat es)[q]?
  | [], j, e, e', off, xs, _, h, _, _, q => by simp at h
  | x :: es, j, e, e', off, xs, hz, h, hl, hc, q => by
    have hx := hz x (by simp)
    have hlen : e'.cells.length = e.cells.length := by
      have ext : ∀ k, (e'.cells[k]?).isSome = (e.cells[k]?).isSome := fun k => by
        rw [hc k]
        split
        · rename_i hk
          have : e.cells.length = z := hz e (List.mem_of_getElem? h)
          rw [List.getElem?_eq_getElem (by omega), List.getElem?_eq_getElem (by omega)]; rfl
        · rfl
      rcases Nat.lt_trichotomy e'.cells.length e.cells.length with h1 | h1 | h1
      · have := ext e'.cells.length
        rw [List.getElem?_eq_none (Nat.le_refl _), List.getElem?_eq_getElem h1] at this; simp at this
      · exact h1
      · have := ext e.cells.length
        rw [List.getElem?_eq_none (l := e.cells) (Nat.le_refl _), List.getElem?_eq_getElem h1] at this; simp at this
    cases j with
    | zero =>
      simp at h; subst h
      simp only [List.set_cons_zero, flat, List.flatMap_cons, Nat.zero_mul, Nat.zero_add]
      rcases Nat.lt_or_ge q z with hq | hq
      · rw [List.getElem?_append_left (by omega), hc q]
        split
        · rfl
        · rw [List.getElem?_append_left (by omega)]
      · rw [if_neg (by omega), List.getElem?_append_right (by omega), List.getElem?_append_right (by omega)]
        congr 1; omega
    | succ j =>
      simp at h
      have ih := flat_upd es j e e' off xs (fun y hy => hz y (by simp [hy])) h hl hc (q - z)
      simp only [List.set_cons_succ, flat, List.flatMap_cons] at ih ⊢
      have hm : (j + 1) * z = j * z + z := Nat.succ_mul j z
      rcases Nat.lt_or_ge q z with hq | hq
      · rw [List.getElem?_append_left (by omega), List.getElem?_append_left (by omega), if_neg (by omega)]
      · rw [List.getElem?_append_right (by omega), List.getElem?_append_right (by omega), hx, ih]
        by_cases hc' : j * z + off ≤ q - z ∧ q - z < j * z + off + xs.length
        · rw [if_pos hc', if_pos (by omega)]
          congr 1; omega
        · rw [if_neg hc', if_neg (by omega)]

/-- An element with some of its cells turned. -/
def putElem (e : AV) (off : Nat) (xs : List AV) : AV :=
  match e with
  | .agg cs => .agg (splice cs off xs)
  | _ => xs.headD .any

def elemOk (e : AV) (xs : List AV) : Bool :=
  match e with
  | .agg _ => true
  | _ => AV.isCell (xs.headD .any)

def wrCells (H : Heap) (a : AV) (xs : List AV) : Option Heap :=
  match a with
  | .ptr i off => match H[i]? with
    | some (.var cs) => if off + xs.length ≤ cs.length then some (H.set i (.var (splice cs off xs))) else none
    | _ => none
  | .pel i ver j off => match H[i]? with
    | some (.vec z v es) => if v = ver then match es[j]? with
        | some e => if off + xs.length ≤ e.cells.length ∧ 0 < xs.length ∧ elemOk e xs = true then some (H.set i (.vec z ver (es.set j (putElem e off xs)))) else none
        | none => none
      else none
    | _ => none
  | _ => none

theorem putElem_cells {e : AV} {off : Nat} {xs : List AV} (h : off + xs.length ≤ e.cells.length) (h0 : 0 < xs.length) (hc : elemOk e xs = true) (k : Nat) :
    (putElem e off xs).cells[k]? = if off ≤ k ∧ k < off + xs.length then xs[k - off]? else e.cells[k]? := by
  have single : e.cells = [e] → AV.isCell (xs.headD .any) = true → (xs.headD .any).cells[k]? = if off ≤ k ∧ k < off + xs.length then xs[k - off]? else e.cells[k]? := by
    intro h1 h2
    rw [h1] at h
    have e1 : off = 0 := by simp at h; omega
    have e2 : xs.length = 1 := by simp at h; omega
    subst e1
    match xs, e2 with
    | [x], _ =>
      have h3 : x.cells = [x] := by cases x <;> simp [AV.isCell] at h2 <;> rfl
      simp only [List.headD_cons, h3, h1, List.length_singleton]
      cases k with
      | zero => simp
      | succ k => simp
  cases e with
  | agg cs => exact splice_get cs off xs h k
  | _ => exact single rfl hc

theorem setRow_heap' {w : World} {b : Nat} {c c' : Array Value} {t : TypeId} (h : w.heap[b]? = some (.cells c t (0, 0))) : (w.setRow b c').heap[b]? = some (.cells c' t (0, 0)) := setRow_heap w b c c' t (0, 0) h

theorem wrCells_ok {P : Program} {K : Kon} {C : Ctx} (hp : Hp K C) {a : AV} {v : Value} (hv : Vl C a v) {xs : List AV} {us : List Value} {H' : Heap} (h : wrCells C.H a xs = some H')
    (hl : us.length = xs.length) (hx : ∀ k x, xs[k]? = some x → Vl C x (us.getD k undef)) (h1 : ∀ u ∈ us, u.oneCell' = true) :
    ∃ b o w' C', v = .pointer (some ⟨b, o, none⟩) ∧ (storeCells ⟨b, o, none⟩ us).run P C.w = .ok () w' ∧ C'.w = w' ∧ Ext C C' ∧ Hp K C' ∧ C'.H = H' := by
  have upd : ∀ (i b o n : Nat) (c : Array Value) (t : TypeId) (ob : AObj), i < C.H.length → C.β i = some b → C.w.heap[b]? = some (.cells c t (0, 0)) → o + us.length ≤ c.size →
      (match C.H[i]?, ob with
        | some (.var _), .var _ => True
        | some (.vec z v es), .vec z' v' es' => z' = z ∧ v' = v ∧ es'.length = es.length
        | _, _ => False) →
      (∀ C', Ext C C' → C'.w.heap[b]? = some (.cells (splice c.toList o us).toArray t (0, 0)) → C'.β i = some b → C'.κ i = C.κ i → ObjOk C' i ob) →
      ∃ w' C', (storeCells ⟨b, o, none⟩ us).run P C.w = .ok () w' ∧ C'.w = w' ∧ Ext C C' ∧ Hp K C' ∧ C'.H = C.H.set i ob := by
    intro i b o n c t ob hi hb hbk hle hk hok
    have hrun := run_storeCells_at P b o t us 0 c C.w hbk (by omega) h1
    rw [Nat.add_zero] at hrun
    have := hp.upd (C.w.setRow b (splice c.toList o us).toArray) i hi ob (C.β i) (C.κ i) rfl rfl rfl (by simp [World.setRow]) (fun b' hb' hne => by
        refine setRow_other C.w b b' _ (fun hh => hne (by rw [hb, hh])) ) (.inl rfl) _ rfl
      (by
        revert hk
        cases hq : C.H[i]? with
        | none => simp
        | some q => cases q <;> cases ob <;> simp
                    rintro rfl rfl he
                    exact ⟨rfl, Nat.le_refl _, fun _ => by omega⟩)
      (fun e => hok _ e (setRow_heap' hbk) (by simp [hb]) (by simp))
    exact ⟨_, _, hrun, rfl, this.1, this.2, rfl⟩
  cases hv with
  | ptr hh hb =>
    rename_i i off b
    obtain ⟨cs, hh⟩ := hh
    simp only [wrCells, hh] at h
    split at h <;> simp at h
    rename_i hle
    subst h
    obtain ⟨b', c, t, g1, g2, g3, g4⟩ := hp.obj i _ hh
    rw [hb] at g1; cases g1
    obtain ⟨w', C', k1, k2, k3, k4, k5⟩ := upd i b off 0 c t (.var (splice cs off xs)) (get_lt hh) hb g2 (by omega) (by rw [hh]; trivial) (fun C' e hw hβ _ => by
      refine ⟨b, _, t, hβ, hw, ?_, fun k x hk => ?_⟩
      · simp [splice_length cs off xs hle, splice_length c.toList off us (by simp; omega)]; omega
      · rw [splice_get cs off xs hle] at hk
        have e1 : (splice c.toList off us).toArray.getD k undef = ((splice c.toList off us)[k]?).getD undef := by simp
        rw [e1, splice_get c.toList off us (by simp; omega), hl]
        split
        · rename_i hc
          rw [if_pos hc] at hk
          have := hx _ x hk
          simpa [List.getD] using this.mono e
        · rename_i hc
          rw [if_neg hc] at hk
          have := g4 k x hk
          simpa using this.mono e)
    exact ⟨b, off, w', C', rfl, k1, k2, k3, k4, k5⟩
  | pel hi hv hh =>
    rename_i i ver j off
    simp only [wrCells] at h
    split at h
    · rename_i z vv es hes
      split at h
      · rename_i hver
        subst hver
        split at h
        · rename_i e he
          by_cases hc : off + xs.length ≤ e.cells.length ∧ 0 < xs.length ∧ elemOk e xs = true
          case neg => rw [if_neg hc] at h; cases h
          rw [if_pos hc] at h
          obtain ⟨hle, h0, hcell⟩ := hc
          have h := Option.some.inj h
          subst h
          obtain ⟨hj, b, hb, rfl⟩ := hh _ _ hes
          obtain ⟨g0, g1, g2, g3⟩ := hp.obj i _ hes
          rcases g3 with g3 | ⟨b', c, t, g4, g5, g6, g7⟩
          · rw [hb] at g3; cases g3.1
          rw [hb] at g4; cases g4
          have hez := g1 e (List.mem_of_getElem? he)
          have hfl := flat_length g1
          have hcap : es.length * z ≤ C.κ i * z := Nat.mul_le_mul_right z g2
          have hjz : j * z + z ≤ es.length * z := by rw [← Nat.succ_mul]; exact Nat.mul_le_mul_right z hj
          have hput := putElem_cells hle h0 hcell
          have hfu := flat_upd es j e (putElem e off xs) off xs g1 he (by omega) hput
          obtain ⟨w', C', k1, k2, k3, k4, k5⟩ := upd i b (j * z + off) 0 c t (.vec z vv (es.set j (putElem e off xs))) hi hb g5 (by omega) (by rw [hes]; simp) (fun C' ex hw hβ hκ => by
            refine ⟨g0, fun y hy => ?_, by rw [hκ]; simpa using g2, .inr ⟨b, _, t, hβ, hw, ?_, fun k x hk => ?_⟩⟩
            · rcases List.mem_or_eq_of_mem_set hy with hy | rfl
              · exact g1 y hy
              · have lenE : (putElem e off xs).cells.length = e.cells.length := by
                  cases e with
                  | agg cs => exact splice_length cs off xs hle
                  | _ =>
                    simp only [AV.cells, List.length_singleton] at hle
                    match xs, h0 with
                    | [x], _ => 
                      simp only [putElem, elemOk, List.headD_cons] at hcell ⊢
                      cases x <;> simp [AV.isCell] at hcell <;> rfl
                    | _ :: _ :: _, _ => simp at hle; omega
                omega
            · rw [hκ]; simp [splice_length c.toList (j * z + off) us (by simp; omega)]; omega
            · rw [hfu] at hk
              have e1 : (splice c.toList (j * z + off) us).toArray.getD k undef = ((splice c.toList (j * z + off) us)[k]?).getD undef := by simp
              rw [e1, splice_get c.toList (j * z + off) us (by simp; omega), hl]
              split
              · rename_i hc
                rw [if_pos hc] at hk
                have := hx _ x hk
                simpa [List.getD] using this.mono ex
              · rename_i hc
                rw [if_neg hc] at hk
                have := g7 k x hk
                simpa using this.mono ex)
          exact ⟨b, _, w', C', rfl, k1, k2, k3, k4, k5⟩
        · cases h
      · cases h
    · cases h
  | _ => simp [wrCells] at h

theorem ok_store {P : Program} {F : Frm} {H H' : Heap} {t : TypeId} {a x : Operand} (hs : tsize P t = some (ev F x).cells.length) (hg : (ev F x).goodPart H = true) (h : wrCells H (ev F a) (ev F x).cells = some H') :
    OpOk P (.store t a x) F H (.raw undef) H' := by
  intro K C ρ oo ho hp hH hρ
  subst hH
  obtain ⟨h1, h2, h3⟩ := part_cells (hρ x) hg
  obtain ⟨b, o, w', C', k0, k1, k2, k3, k4, k5⟩ := wrCells_ok (P := P) hp (hρ a) h (us := (ρ x).cells.toList) (by simpa using h1) (fun k y hy => by
    have := h2 k y hy
    simpa [List.getD] using this) h3
  refine ⟨.skip, undef, C', ?_, .inr ⟨rfl, rfl⟩, k3, k4, .raw _, k5⟩
  have hsz : (ρ x).cells.size = (ev F x).cells.length := h1
  simp only [execOp, ho, Instr.storeAt, k0, Instr.sureAddr, Sem.run_bind, Sem.run_pure, Result.andThen_ok, storeVar, tsize_run hs, hsz, ne_eq, not_true, if_false, k1, k2]

end Go.Ab
