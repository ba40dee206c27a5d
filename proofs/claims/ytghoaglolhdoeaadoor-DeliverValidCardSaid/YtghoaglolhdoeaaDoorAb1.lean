/- A program logic over the model: contracts of calls, proved from the model alone, without conditions. -/
import Derived.Test.YtghoaglolhdoeaaDoorAb0
set_option linter.unusedSimpArgs false
set_option linter.unusedVariables false
namespace Go.Ab
open Go

theorem Ext.trans {A B C : Ctx} (h : Ext A B) (k : Ext B C) : Ext A C where
  len := Nat.le_trans h.len k.len
  pers := fun b hb hs => by
    obtain ⟨h1, h2⟩ := h.pers b hb hs
    obtain ⟨k1, k2⟩ := k.pers b h2 (heap_lt (h1.trans (Array.getElem?_eq_getElem hs)))
    exact ⟨k1.trans h1, k2⟩
  var := fun i cs hi => by
    obtain ⟨⟨cs', h1⟩, h2⟩ := h.var i cs hi
    obtain ⟨k1, k2⟩ := k.var i cs' h1
    exact ⟨k1, k2.trans h2⟩
  mapo := fun i cs hi => by
    obtain ⟨⟨cs', h1⟩, h2⟩ := h.mapo i cs hi
    obtain ⟨k1, k2⟩ := k.mapo i cs' h1
    exact ⟨k1, k2.trans h2⟩
  loopo := fun i cs hi => by
    obtain ⟨⟨cs', h1⟩, h2⟩ := h.loopo i cs hi
    obtain ⟨k1, k2⟩ := k.loopo i cs' h1
    exact ⟨k1, k2.trans h2⟩
  vec := fun i z v' es' hi hh => by
    obtain ⟨v1, es1, h1, h2, h3⟩ := k.vec i z v' es' (Nat.lt_of_lt_of_le hi h.len) hh
    obtain ⟨v0, es0, g1, g2, g3⟩ := h.vec i z v1 es1 hi h1
    refine ⟨v0, es0, g1, Nat.le_trans g2 h2, fun e => ?_⟩
    obtain ⟨a1, a2, a3⟩ := h3 (by omega)
    obtain ⟨b1, b2, b3⟩ := g3 (by omega)
    exact ⟨Nat.le_trans b1 a1, a2.trans b2, a3.trans b3⟩

def FrOk (C : Ctx) (F : Frm) (tmps : Array Value) : Prop := ∀ k x, F.lookup k = some x → Vl C x (tmps.getD k undef)

/-- What an own object is in memory. -/
def ObjOk (C : Ctx) (i : Nat) : AObj → Prop
  | .var cs => ∃ b c e, C.β i = some b ∧ C.w.heap[b]? = some (.cells c e (0, 0)) ∧ c.size = cs.length ∧ ∀ k x, cs[k]? = some x → Vl C x (c.getD k undef)
  | .vec z _ es => 0 < z ∧ (∀ e ∈ es, e.cells.length = z) ∧ es.length ≤ C.κ i ∧
      ((C.β i = none ∧ C.κ i = 0) ∨ ∃ b c e, C.β i = some b ∧ C.w.heap[b]? = some (.cells c e (0, 0)) ∧ c.size = C.κ i * z ∧ ∀ k x, (flat es)[k]? = some x → Vl C x (c.getD k undef))
  | .mapo es => ∃ b ents clock, C.β i = some b ∧ C.w.heap[b]? = some (.map ents clock) ∧ ents.size = es.length ∧
      (∀ k e, es[k]? = some e → Vl C e.1 (ents.getD k default).key ∧ Vl C e.2 (ents.getD k default).val) ∧
      (∀ k, k < ents.size → (ents.getD k default).born < clock) ∧ (∀ j k, j < k → k < ents.size → (ents.getD j default).born ≠ (ents.getD k default).born)
  | .loopo l => ∃ b r, C.β i = some b ∧ C.w.heap[b]? = some (.loop r) ∧ r.state = l.state ∧ r.pending = l.pending ∧ r.params = l.params ∧ r.assign = l.assign ∧ r.body = l.body ∧
      r.tmps.size = l.N ∧ FrOk C l.F r.tmps
  | .dead => True

/-- What stays fixed during one call: the state at its begin, the known variables, the round. -/
structure Kon where
  C0 : Ctx
  G : List (Nat × List Value)
  rb : Option Nat

structure Hp (K : Kon) (C : Ctx) : Prop where
  X : C.X = K.C0.X
  xown : ∀ b, C.X b → ¬ C.own b
  xlt : ∀ b, C.X b → b < K.C0.w.heap.size
  inj : ∀ i j b, i < C.H.length → j < C.H.length → C.β i = some b → C.β j = some b → i = j
  lt : ∀ i b, i < C.H.length → C.β i = some b → b < C.w.heap.size
  obj : ∀ i o, C.H[i]? = some o → ObjOk C i o
  ext : Ext K.C0 C
  os : C.w.os = K.C0.w.os
  tape : C.w.tape = K.C0.w.tape
  output : C.w.output = K.C0.w.output
  size : K.C0.w.heap.size ≤ C.w.heap.size
  same : ∀ b, b < K.C0.w.heap.size → ¬ K.C0.own b → C.w.heap[b]? = K.C0.w.heap[b]?
  ownn : ∀ b, C.own b → K.C0.own b ∨ K.C0.w.heap.size ≤ b
  glob : ∀ g cs, (g, cs) ∈ K.G → Vl C (.rp (cs.map .raw)) (.pointer (some ⟨g, 0, none⟩))

theorem FrOk.monoW {C C' : Ctx} (e : ExtW C C') {F : Frm} {t : Array Value} (h : FrOk C F t) : FrOk C' F t := fun k x hx => (h k x hx).monoW e
theorem FrOk.mono {C C' : Ctx} (e : Ext C C') {F : Frm} {t : Array Value} (h : FrOk C F t) : FrOk C' F t := h.monoW e.toW

/-- An object whose block has not turned. -/
theorem ObjOk.monoW {C C' : Ctx} (e : ExtW C C') {i : Nat} {o : AObj} (hβ : C'.β i = C.β i) (hκ : C'.κ i = C.κ i)
    (hb : ∀ b, C.β i = some b → C'.w.heap[b]? = C.w.heap[b]?) (h : ObjOk C i o) : ObjOk C' i o := by
  cases o with
  | var cs =>
    obtain ⟨b, c, t, h1, h2, h3, h4⟩ := h
    exact ⟨b, c, t, hβ.trans h1, (hb b h1).trans h2, h3, fun k x hx => (h4 k x hx).monoW e⟩
  | vec z ver es =>
    obtain ⟨h0, h1, h2, h3⟩ := h
    refine ⟨h0, h1, by rw [hκ]; exact h2, ?_⟩
    rcases h3 with h3 | ⟨b, c, t, h4, h5, h6, h7⟩
    · exact .inl ⟨hβ.trans h3.1, hκ.trans h3.2⟩
    · exact .inr ⟨b, c, t, hβ.trans h4, (hb b h4).trans h5, by rw [hκ]; exact h6, fun k x hx => (h7 k x hx).monoW e⟩
  | mapo es =>
    obtain ⟨b, ents, clock, h1, h2, h3, h4, h5⟩ := h
    exact ⟨b, ents, clock, hβ.trans h1, (hb b h1).trans h2, h3, fun k x hx => ⟨(h4 k x hx).1.monoW e, (h4 k x hx).2.monoW e⟩, h5⟩
  | loopo l =>
    obtain ⟨b, r, h1, h2, h3, h4, h5, h6, h7, h8, h9⟩ := h
    exact ⟨b, r, hβ.trans h1, (hb b h1).trans h2, h3, h4, h5, h6, h7, h8, h9.monoW e⟩
  | dead => trivial

theorem ObjOk.mono {C C' : Ctx} (e : Ext C C') {i : Nat} {o : AObj} (hβ : C'.β i = C.β i) (hκ : C'.κ i = C.κ i)
    (hb : ∀ b, C.β i = some b → C'.w.heap[b]? = C.w.heap[b]?) (h : ObjOk C i o) : ObjOk C' i o := h.monoW e.toW hβ hκ hb

/-- The world turns outside of what is told: a draw, a new block that nothing owns. -/
theorem Hp.world {K : Kon} {C : Ctx} (h : Hp K C) (w' : World) (hos : w'.os = C.w.os) (htape : w'.tape = C.w.tape) (hout : w'.output = C.w.output)
    (hsz : C.w.heap.size ≤ w'.heap.size) (hsame : ∀ b, b < C.w.heap.size → w'.heap[b]? = C.w.heap[b]?) :
    Ext C { C with w := w' } ∧ Hp K { C with w := w' } := by
  have e : Ext C { C with w := w' } :=
    { len := Nat.le_refl _, pers := fun b hb hs => ⟨hsame b hs, hb⟩, var := fun _ cs h => ⟨⟨cs, h⟩, rfl⟩, mapo := fun _ cs h => ⟨⟨cs, h⟩, rfl⟩,
      loopo := fun _ cs h => ⟨⟨cs, h⟩, rfl⟩, vec := fun _ _ v' es' _ h => ⟨v', es', h, Nat.le_refl _, fun _ => ⟨Nat.le_refl _, rfl, rfl⟩⟩ }
  exact ⟨e,
    { X := h.X, xown := h.xown, xlt := h.xlt, inj := h.inj, lt := fun i b hi hb => Nat.lt_of_lt_of_le (h.lt i b hi hb) hsz
      obj := fun i o ho => (h.obj i o ho).mono e rfl rfl (fun b hb => hsame b (h.lt i b (by
        rcases Nat.lt_or_ge i C.H.length with h' | h'
        · exact h'
        · have ho' : C.H[i]? = some o := ho
          rw [List.getElem?_eq_none h'] at ho'; cases ho') hb))
      ext := h.ext.trans e, os := hos.trans h.os, tape := htape.trans h.tape, output := hout.trans h.output, size := Nat.le_trans h.size hsz
      same := fun b hb hn => (hsame b (Nat.lt_of_lt_of_le hb h.size)).trans (h.same b hb hn), ownn := h.ownn, glob := fun g cs hg => (h.glob g cs hg).mono e }⟩

theorem get_lt {α : Type} {l : List α} {i : Nat} {x : α} (h : l[i]? = some x) : i < l.length := by
  rcases Nat.lt_or_ge i l.length with h' | h'
  · exact h'
  · rw [List.getElem?_eq_none h'] at h; cases h

/-- A new own object in a new block. -/
theorem Hp.push {K : Kon} {C : Ctx} (h : Hp K C) (w' : World) (o : AObj) (cap : Nat) (hos : w'.os = C.w.os) (htape : w'.tape = C.w.tape) (hout : w'.output = C.w.output)
    (hsz : w'.heap.size = C.w.heap.size + 1) (hsame : ∀ b, b < C.w.heap.size → w'.heap[b]? = C.w.heap[b]?)
    (C' : Ctx) (hC : C' = { C with w := w', H := C.H ++ [o], β := fun j => if j = C.H.length then some C.w.heap.size else C.β j, κ := fun j => if j = C.H.length then cap else C.κ j })
    (ho : Ext C C' → ObjOk C' C.H.length o) : Ext C C' ∧ Hp K C' := by
  subst hC
  have hown : ∀ b, Ctx.own { C with w := w', H := C.H ++ [o], β := fun j => if j = C.H.length then some C.w.heap.size else C.β j, κ := fun j => if j = C.H.length then cap else C.κ j } b → C.own b ∨ b = C.w.heap.size := by
    intro b ⟨i, hi, hb⟩
    simp at hi hb
    split at hb
    · right; cases hb; rfl
    · left; exact ⟨i, by omega, hb⟩
  have e : Ext C { C with w := w', H := C.H ++ [o], β := fun j => if j = C.H.length then some C.w.heap.size else C.β j, κ := fun j => if j = C.H.length then cap else C.κ j } :=
    { len := by simp, pers := fun b hb hs => ⟨hsame b hs, fun hbad => by
        rcases hbad with hx | hx
        · exact hb (.inl hx)
        · rcases hown b hx with h1 | h1
          · exact hb (.inr h1)
          · omega⟩
      var := fun i cs hi => by have hl := get_lt hi; exact ⟨⟨cs, by simpa [List.getElem?_append_left hl] using hi⟩, by simp [Nat.ne_of_lt hl]⟩
      mapo := fun i cs hi => by have hl := get_lt hi; exact ⟨⟨cs, by simpa [List.getElem?_append_left hl] using hi⟩, by simp [Nat.ne_of_lt hl]⟩
      loopo := fun i cs hi => by have hl := get_lt hi; exact ⟨⟨cs, by simpa [List.getElem?_append_left hl] using hi⟩, by simp [Nat.ne_of_lt hl]⟩
      vec := fun i z v' es' hl hh => by
        rw [List.getElem?_append_left hl] at hh
        exact ⟨v', es', hh, Nat.le_refl _, fun _ => ⟨Nat.le_refl _, by simp [Nat.ne_of_lt hl], by simp [Nat.ne_of_lt hl]⟩⟩ }
  refine ⟨e, ?_⟩
  refine
    { X := h.X, xown := fun b hx ho' => ?_, xlt := h.xlt, inj := fun i j b hi hj hbi hbj => ?_, lt := fun i b hi hb => ?_, obj := fun i o' hio => ?_
      ext := h.ext.trans e, os := hos.trans h.os, tape := htape.trans h.tape, output := hout.trans h.output, size := by have := h.size; simp only []; omega
      same := fun b hb hn => (hsame b (Nat.lt_of_lt_of_le hb h.size)).trans (h.same b hb hn), ownn := fun b hb => ?_, glob := fun g cs hg => (h.glob g cs hg).mono e }
  · rcases hown b ho' with h1 | h1
    · exact h.xown b hx h1
    · have := h.xlt b hx; have := h.size; omega
  · simp at hi hj hbi hbj
    split at hbi <;> split at hbj
    · omega
    · cases hbi; have := h.lt j _ (by omega) hbj; omega
    · cases hbj; have := h.lt i _ (by omega) hbi; omega
    · exact h.inj i j b (by omega) (by omega) hbi hbj
  · simp at hi hb
    split at hb
    · cases hb; simp only []; omega
    · have := h.lt i b (by omega) hb; simp only []; omega
  · rcases Nat.lt_or_ge i C.H.length with hl | hl
    · simp only [List.getElem?_append_left hl] at hio
      exact (h.obj i o' hio).mono e (by simp [Nat.ne_of_lt hl]) (by simp [Nat.ne_of_lt hl]) (fun b hb => hsame b (h.lt i b hl hb))
    · have hi := get_lt hio
      simp at hi
      have : i = C.H.length := by omega
      subst this
      simp at hio
      subst hio
      exact ho e
  · rcases hown b hb with h1 | h1
    · exact h.ownn b h1
    · right; have := h.size; omega

/-- One own object turns, in its own block or in a new one. -/
theorem Hp.upd {K : Kon} {C : Ctx} (h : Hp K C) (w' : World) (i : Nat) (hi : i < C.H.length) (o : AObj) (b' : Option Nat) (cap : Nat)
    (hos : w'.os = C.w.os) (htape : w'.tape = C.w.tape) (hout : w'.output = C.w.output)
    (hsz : C.w.heap.size ≤ w'.heap.size) (hsame : ∀ b, b < C.w.heap.size → C.β i ≠ some b → w'.heap[b]? = C.w.heap[b]?)
    (hb' : b' = C.β i ∨ ∃ b, b' = some b ∧ C.w.heap.size ≤ b ∧ b < w'.heap.size)
    (C' : Ctx) (hC : C' = { C with w := w', H := C.H.set i o, β := fun j => if j = i then b' else C.β j, κ := fun j => if j = i then cap else C.κ j })
    (hk : match C.H[i]?, o with
      | some (.var _), .var _ => b' = C.β i
      | some (.mapo _), .mapo _ => b' = C.β i
      | some (.loopo _), .loopo _ => b' = C.β i
      | some (.vec z v es), .vec z' v' es' => z' = z ∧ v ≤ v' ∧ (v = v' → es.length ≤ es'.length ∧ b' = C.β i ∧ cap = C.κ i)
      | some .dead, .var _ => True
      | some .dead, .mapo _ => True
      | _, _ => False)
    (ho : Ext C C' → ObjOk C' i o) : Ext C C' ∧ Hp K C' := by
  subst hC
  have hown : ∀ b, Ctx.own { C with w := w', H := C.H.set i o, β := fun j => if j = i then b' else C.β j, κ := fun j => if j = i then cap else C.κ j } b → C.own b ∨ C.w.heap.size ≤ b := by
    intro b ⟨j, hj, hb⟩
    simp at hj hb
    split at hb
    · rcases hb' with h1 | ⟨b2, h1, h2, _⟩
      · left; exact ⟨i, hi, by rw [← h1]; exact hb⟩
      · right; rw [h1] at hb; cases hb; exact h2
    · left; exact ⟨j, hj, hb⟩
  have hset : ∀ j, j ≠ i → (C.H.set i o)[j]? = C.H[j]? := fun j hj => by rw [List.getElem?_set_ne (Ne.symm hj)]
  have hseti : (C.H.set i o)[i]? = some o := by rw [List.getElem?_set_self hi]
  have hHi : C.H[i]? = some C.H[i] := List.getElem?_eq_getElem hi
  have e : Ext C { C with w := w', H := C.H.set i o, β := fun j => if j = i then b' else C.β j, κ := fun j => if j = i then cap else C.κ j } := by
    refine { len := by simp, pers := fun b hb hs => ⟨hsame b hs (fun hh => hb (.inr ⟨i, hi, hh⟩)), fun hbad => ?_⟩, var := fun j cs hj => ?_, mapo := fun j cs hj => ?_, loopo := fun j cs hj => ?_, vec := fun j z v' es' hl hh => ?_ }
    · rcases hbad with hx | hx
      · exact hb (.inl hx)
      · rcases hown b hx with h1 | h1
        · exact hb (.inr h1)
        · omega
    · by_cases hji : j = i
      · subst hji
        rw [hj] at hk
        cases o with
        | var cs' => exact ⟨⟨cs', hseti⟩, by simpa using hk⟩
        | _ => exact hk.elim
      · exact ⟨⟨cs, by simp only [hset j hji]; exact hj⟩, by simp [hji]⟩
    · by_cases hji : j = i
      · subst hji
        rw [hj] at hk
        cases o with
        | mapo cs' => exact ⟨⟨cs', hseti⟩, by simpa using hk⟩
        | _ => exact hk.elim
      · exact ⟨⟨cs, by simp only [hset j hji]; exact hj⟩, by simp [hji]⟩
    · by_cases hji : j = i
      · subst hji
        rw [hj] at hk
        cases o with
        | loopo cs' => exact ⟨⟨cs', hseti⟩, by simpa using hk⟩
        | _ => exact hk.elim
      · exact ⟨⟨cs, by simp only [hset j hji]; exact hj⟩, by simp [hji]⟩
    · by_cases hji : j = i
      · subst hji
        simp only [hseti] at hh
        cases hh
        rw [hHi] at hk
        cases hH : C.H[j] with
        | vec z0 v0 es0 =>
          rw [hH] at hk
          obtain ⟨h1, h2, h3⟩ := hk
          subst h1
          exact ⟨v0, es0, by rw [hHi, hH], h2, fun hv => by obtain ⟨a1, a2, a3⟩ := h3 hv; exact ⟨a1, by simpa using a2, by simpa using a3⟩⟩
        | var _ => rw [hH] at hk; exact hk.elim
        | mapo _ => rw [hH] at hk; exact hk.elim
        | loopo _ => rw [hH] at hk; exact hk.elim
        | dead => rw [hH] at hk; exact hk.elim
      · simp only [hset j hji] at hh
        exact ⟨v', es', hh, Nat.le_refl _, fun _ => ⟨Nat.le_refl _, by simp [hji], by simp [hji]⟩⟩
  refine ⟨e, ?_⟩
  refine
    { X := h.X, xown := fun b hx ho' => ?_, xlt := h.xlt, inj := fun j k b hj hk' hbj hbk => ?_, lt := fun j b hj hb => ?_, obj := fun j o' hjo => ?_
      ext := h.ext.trans e, os := hos.trans h.os, tape := htape.trans h.tape, output := hout.trans h.output, size := Nat.le_trans h.size hsz
      same := fun b hb hn => (hsame b (Nat.lt_of_lt_of_le hb h.size) (fun hh => ?_)).trans (h.same b hb hn), ownn := fun b hb => ?_, glob := fun g cs hg => (h.glob g cs hg).mono e }
  · rcases hown b ho' with h1 | h1
    · exact h.xown b hx h1
    · have := h.xlt b hx; have := h.size; omega
  · simp at hj hk' hbj hbk
    split at hbj <;> split at hbk
    · omega
    · rename_i e1 e2
      rcases hb' with h1 | ⟨b2, h1, h2, _⟩
      · exact absurd (h.inj i k b hi hk' (by rw [← h1]; exact hbj) hbk) (fun hh => e2 hh.symm)
      · rw [h1] at hbj; cases hbj; have := h.lt k _ hk' hbk; omega
    · rename_i e1 e2
      rcases hb' with h1 | ⟨b2, h1, h2, _⟩
      · exact absurd (h.inj j i b hj hi hbj (by rw [← h1]; exact hbk)) e1
      · rw [h1] at hbk; cases hbk; have := h.lt j _ hj hbj; omega
    · exact h.inj j k b hj hk' hbj hbk
  · simp at hj hb
    split at hb
    · rcases hb' with h1 | ⟨b2, h1, h2, h3⟩
      · exact Nat.lt_of_lt_of_le (h.lt i b hi (by rw [← h1]; exact hb)) hsz
      · rw [h1] at hb; cases hb; exact h3
    · exact Nat.lt_of_lt_of_le (h.lt j b hj hb) hsz
  · by_cases hji : j = i
    · subst hji
      simp only [hseti] at hjo
      cases hjo
      exact ho e
    · simp only [hset j hji] at hjo
      have hjl := get_lt hjo
      refine (h.obj j o' hjo).mono e (by simp [hji]) (by simp [hji]) (fun b hb => hsame b (h.lt j b hjl hb) (fun hh => ?_))
      exact hji (h.inj j i b hjl hi hb hh)
  · exact (h.ownn b ⟨i, hi, hh⟩).elim hn (fun h1 => by omega)
  · rcases hown b hb with h1 | h1
    · exact h.ownn b h1
    · right; have := h.size; omega

end Go.Ab
