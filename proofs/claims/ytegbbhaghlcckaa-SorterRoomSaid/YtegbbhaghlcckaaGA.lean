/- A program logic over the model: contracts of calls, proved from the model alone, without conditions. -/
import Derived.RangeFuncLeaves
import Derived.Laws.NewBlocks
import Derived.RowKit3
import Derived.Laws.Cells
import Derived.Laws.CopyRow
import Derived.RangeFuncRecord
import Derived.Laws.Tables
import Derived.Laws.AppendOwn
import Derived.Laws.MakeOwn
set_option linter.unusedSimpArgs false
set_option linter.unusedVariables false
namespace Go.Ab
open Go

/-- What is known of a slice: that nothing is behind it; that it may lie in memory that was lent. -/
structure Fl where
  full : Bool
  lent : Bool
instance : Coe Bool Fl := ⟨fun b => ⟨b, false⟩⟩
def Fl.cut (f : Fl) : Fl := ⟨false, f.lent⟩
/-- Something lent, for reading. -/
def fL : Fl := ⟨false, true⟩
def Fl.le (f' f : Fl) : Prop := (f'.full = true → f.full = true) ∧ (f'.lent = false → f.lent = false)
theorem Fl.le_refl (f : Fl) : Fl.le f f := ⟨id, id⟩

/-- Abstract values: data by value, own memory by number. -/
inductive AV where
  | any
  | raw (v : Value)
  | ptr (i off : Nat)
  | pel (i ver j off : Nat)
  | rp (cs : List AV)
  | sl (z : Nat) (full : Fl) (es : List AV)
  | slb (z n : Nat) (es : List AV)
  | slo (i ver off len : Nat)
  | mp (i : Nat)
  | pm (es : List (AV × AV))
  | fn (f : FuncId) (first caps : List AV)
  | yl (i : Nat)
  | agg (cs : List AV)
  | tup (vs : List AV)

instance : Inhabited AV := ⟨.any⟩

abbrev Frm := List (Nat × AV)

/-- The record of a range over a function. -/
structure LoopA where
  state : LoopState
  pending : Option Code
  F : Frm
  N : Nat
  params : Array Tmp
  assign : Code
  body : Code

/-- Own memory. -/
inductive AObj where
  | var (cs : List AV)
  | vec (z ver : Nat) (es : List AV)
  | mapo (es : List (AV × AV))
  | loopo (l : LoopA)
  | dead

abbrev Heap := List AObj

def AV.cells : AV → List AV
  | .agg cs => cs
  | a => [a]

def flat (es : List AV) : List AV := es.flatMap AV.cells

structure Ctx where
  w : World
  X : Nat → Prop
  L : Nat → Prop
  H : Heap
  β : Nat → Option Nat
  κ : Nat → Nat

def Ctx.own (C : Ctx) (b : Nat) : Prop := ∃ i, i < C.H.length ∧ C.β i = some b
def Ctx.bad (C : Ctx) (b : Nat) : Prop := C.X b ∨ C.own b

/-- What a value is, as data. -/
inductive Vl (C : Ctx) : AV → Value → Prop
  | any (v : Value) : Vl C .any v
  | raw (v : Value) : Vl C (.raw v) v
  | ptr {i off b : Nat} (h : ∃ cs, C.H[i]? = some (.var cs)) (hb : C.β i = some b) : Vl C (.ptr i off) (.pointer (some ⟨b, off, none⟩))
  | pel {i ver j off : Nat} {v : Value} (hi : i < C.H.length) (hv : ∀ z v0 es, C.H[i]? = some (.vec z v0 es) → ver ≤ v0)
      (h : ∀ z es, C.H[i]? = some (.vec z ver es) → j < es.length ∧ ∃ b, C.β i = some b ∧ v = .pointer (some ⟨b, j * z + off, none⟩)) : Vl C (.pel i ver j off) v
  | rp {cs : List AV} {b off : Nat} (g : Nat → Value) (hb : ¬ C.bad b) (hs : ∃ c e f, C.w.heap[b]? = some (.cells c e f)) (hc : ∀ k, k < cs.length → C.w.cell? ⟨b, off + k, none⟩ = some (g k))
      (hx : ∀ k x, cs[k]? = some x → Vl C x (g k)) : Vl C (.rp cs) (.pointer (some ⟨b, off, none⟩))
  | sl {z : Nat} {full : Fl} {es : List AV} {a : Option Addr} {cap : Nat} (g : Nat → Value) (hz : 0 < z) (hcap : es.length ≤ cap) (hfull : full.full = true → cap = es.length)
      (hn : a = none → cap = 0) (hs : ∀ e ∈ es, e.cells.length = z)
      (ha : ∀ x, a = some x → es ≠ [] → x.spot = none ∧ ¬ C.bad x.block ∧ ∀ k, k < es.length * z → C.w.cell? ⟨x.block, x.off + k, none⟩ = some (g k))
      (hL : full.lent = false → ∀ x, a = some x → es ≠ [] → ¬ C.L x.block)
      (hx : ∀ k x, (flat es)[k]? = some x → Vl C x (g k)) : Vl C (.sl z full es) (.slice a es.length cap)
  | slb {z n : Nat} {es : List AV} {a : Option Addr} {cap : Nat} (g : Nat → Value) (hz : 0 < z) (hle : n ≤ es.length) (hcap : es.length ≤ cap)
      (hn : a = none → cap = 0) (hs : ∀ e ∈ es, e.cells.length = z)
      (ha : ∀ x, a = some x → es ≠ [] → x.spot = none ∧ ¬ C.bad x.block ∧ ∀ k, k < es.length * z → C.w.cell? ⟨x.block, x.off + k, none⟩ = some (g k))
      (hx : ∀ k x, (flat es)[k]? = some x → Vl C x (g k)) : Vl C (.slb z n es) (.slice a n cap)
  | slo {i ver off len : Nat} {v : Value} (hi : i < C.H.length) (hv : ∀ z v0 es, C.H[i]? = some (.vec z v0 es) → ver ≤ v0)
      (h : ∀ z es, C.H[i]? = some (.vec z ver es) → off + len ≤ es.length ∧ v = .slice ((C.β i).map fun b => ⟨b, off * z, none⟩) len (C.κ i - off)) : Vl C (.slo i ver off len) v
  | mp {i b : Nat} (h : ∃ es, C.H[i]? = some (.mapo es)) (hb : C.β i = some b) : Vl C (.mp i) (.map (some b))
  | pm {es : List (AV × AV)} {b clock : Nat} {ents : Array MapEntry} (hb : ¬ C.bad b) (hL : ¬ C.L b) (hm : C.w.heap[b]? = some (.map ents clock)) (hs : ents.size = es.length)
      (hk : ∀ k e, es[k]? = some e → Vl C e.1 (ents.getD k default).key) (hv : ∀ k e, es[k]? = some e → Vl C e.2 (ents.getD k default).val) : Vl C (.pm es) (.map (some b))
  | fn {f : FuncId} {first caps : List AV} {fv cv : Array Value} (h1 : fv.size = first.length) (h2 : cv.size = caps.length)
      (hf : ∀ k x, first[k]? = some x → Vl C x (fv.getD k undef)) (hc : ∀ k x, caps[k]? = some x → Vl C x (cv.getD k undef)) : Vl C (.fn f first caps) (.func (.func f) fv cv)
  | yl {i b : Nat} (h : ∃ l, C.H[i]? = some (.loopo l)) (hb : C.β i = some b) : Vl C (.yl i) (.func (.yield b) #[] #[])
  | agg {cs : List AV} {vs : Array Value} (h : vs.size = cs.length) (hx : ∀ k x, cs[k]? = some x → Vl C x (vs.getD k undef)) : Vl C (.agg cs) (.agg vs)
  | tup {cs : List AV} {vs : Array Value} (h : vs.size = cs.length) (hx : ∀ k x, cs[k]? = some x → Vl C x (vs.getD k undef)) : Vl C (.tup cs) (.tuple vs)

/-- From one state to a later one: what was told stays told. -/
structure Ext (C C' : Ctx) : Prop where
  len : C.H.length ≤ C'.H.length
  lnt : ∀ b, C'.L b → C.L b
  pers : ∀ b, ¬ C.bad b → b < C.w.heap.size → C'.w.heap[b]? = C.w.heap[b]? ∧ ¬ C'.bad b
  var : ∀ i cs, C.H[i]? = some (.var cs) → (∃ cs', C'.H[i]? = some (.var cs')) ∧ C'.β i = C.β i
  mapo : ∀ i es, C.H[i]? = some (.mapo es) → (∃ es', C'.H[i]? = some (.mapo es')) ∧ C'.β i = C.β i
  loopo : ∀ i l, C.H[i]? = some (.loopo l) → (∃ l', C'.H[i]? = some (.loopo l')) ∧ C'.β i = C.β i
  vec : ∀ i z v' es', i < C.H.length → C'.H[i]? = some (.vec z v' es') →
    ∃ v0 es, C.H[i]? = some (.vec z v0 es) ∧ v0 ≤ v' ∧ (v0 = v' → es.length ≤ es'.length ∧ C'.β i = C.β i ∧ C'.κ i = C.κ i)

/-- The same, whatever becomes of blocks for deferred calls. -/
structure ExtW (C C' : Ctx) : Prop where
  len : C.H.length ≤ C'.H.length
  lnt : ∀ b, C'.L b → C.L b
  pers : ∀ b, ¬ C.bad b → b < C.w.heap.size → (∀ ds, C.w.heap[b]? ≠ some (.deferred ds)) → C'.w.heap[b]? = C.w.heap[b]? ∧ ¬ C'.bad b
  var : ∀ i cs, C.H[i]? = some (.var cs) → (∃ cs', C'.H[i]? = some (.var cs')) ∧ C'.β i = C.β i
  mapo : ∀ i es, C.H[i]? = some (.mapo es) → (∃ es', C'.H[i]? = some (.mapo es')) ∧ C'.β i = C.β i
  loopo : ∀ i l, C.H[i]? = some (.loopo l) → (∃ l', C'.H[i]? = some (.loopo l')) ∧ C'.β i = C.β i
  vec : ∀ i z v' es', i < C.H.length → C'.H[i]? = some (.vec z v' es') →
    ∃ v0 es, C.H[i]? = some (.vec z v0 es) ∧ v0 ≤ v' ∧ (v0 = v' → es.length ≤ es'.length ∧ C'.β i = C.β i ∧ C'.κ i = C.κ i)

theorem Ext.toW {C C' : Ctx} (e : Ext C C') : ExtW C C' :=
  ⟨e.len, e.lnt, fun b h1 h2 _ => e.pers b h1 h2, e.var, e.mapo, e.loopo, e.vec⟩

theorem Ext.refl (C : Ctx) : Ext C C where
  len := Nat.le_refl _
  lnt := fun _ h => h
  pers := fun _ h _ => ⟨rfl, h⟩
  var := fun _ cs h => ⟨⟨cs, h⟩, rfl⟩
  mapo := fun _ cs h => ⟨⟨cs, h⟩, rfl⟩
  loopo := fun _ cs h => ⟨⟨cs, h⟩, rfl⟩
  vec := fun _ _ v' es' _ h => ⟨v', es', h, Nat.le_refl _, fun _ => ⟨Nat.le_refl _, rfl, rfl⟩⟩

theorem cell?_lt {w : World} {a : Addr} {v : Value} (h : w.cell? a = some v) : a.block < w.heap.size := by
  unfold World.cell? at h
  rcases Nat.lt_or_ge a.block w.heap.size with h' | h'
  · exact h'
  · rw [Array.getElem?_eq_none h'] at h; cases h

theorem cell?_data {w : World} {a : Addr} {v : Value} (h : w.cell? a = some v) (ds : Option (List Deferred)) : w.heap[a.block]? ≠ some (.deferred ds) := fun hh => by
  unfold World.cell? at h
  rw [hh] at h; cases h

theorem cell?_same {w w' : World} {a : Addr} (h : w'.heap[a.block]? = w.heap[a.block]?) : w'.cell? a = w.cell? a := by
  unfold World.cell?; rw [h]

theorem heap_lt {w : World} {b : Nat} {o : Obj} (h : w.heap[b]? = some o) : b < w.heap.size := by
  rcases Nat.lt_or_ge b w.heap.size with h' | h'
  · exact h'
  · rw [Array.getElem?_eq_none h'] at h; cases h

theorem Vl.monoW {C C' : Ctx} (e : ExtW C C') {x : AV} {v : Value} (h : Vl C x v) : Vl C' x v := by
  induction h with
  | any v => exact .any v
  | raw v => exact .raw v
  | ptr h hb => obtain ⟨cs, h⟩ := h; have := e.var _ _ h; exact .ptr this.1 (this.2.trans hb)
  | pel hi hv h =>
    refine .pel (Nat.lt_of_lt_of_le hi e.len) (fun z v0 es hh => ?_) (fun z es hh => ?_)
    · obtain ⟨v1, es1, h1, h2, _⟩ := e.vec _ _ _ _ hi hh
      exact Nat.le_trans (hv _ _ _ h1) h2
    · obtain ⟨v1, es1, h1, h2, h3⟩ := e.vec _ _ _ _ hi hh
      have := hv _ _ _ h1
      have : v1 = _ := Nat.le_antisymm h2 this
      subst this
      obtain ⟨hj, b, hb, hv⟩ := h _ _ h1
      exact ⟨Nat.lt_of_lt_of_le hj (h3 rfl).1, b, (h3 rfl).2.1.trans hb, hv⟩
  | rp g hb hs hc hx ih =>
    obtain ⟨c, t, f, hs⟩ := hs
    have := e.pers _ hb (heap_lt hs) (fun ds hh => by rw [hs] at hh; cases hh)
    exact .rp g this.2 ⟨c, t, f, this.1.trans hs⟩ (fun k hk => (cell?_same (this.1)).trans (hc k hk)) ih
  | sl g hz hcap hfull hn hs ha hL hx ih =>
    refine .sl g hz hcap hfull hn hs (fun x hxa hne => ?_) (fun h0 x hxa hne hl => hL h0 x hxa hne (e.lnt _ hl)) ih
    obtain ⟨h1, h2, h3⟩ := ha x hxa hne
    have hl : 0 < _ := Nat.mul_pos (List.length_pos_iff.2 hne) hz
    have hlt : x.block < C.w.heap.size := cell?_lt (a := ⟨x.block, x.off + 0, none⟩) (h3 0 hl)
    have := e.pers _ h2 hlt (cell?_data (a := ⟨x.block, x.off + 0, none⟩) (h3 0 hl))
    exact ⟨h1, this.2, fun k hk => (cell?_same (a := ⟨x.block, x.off + k, none⟩) (this.1)).trans (h3 k hk)⟩
  | slb g hz hle hcap hn hs ha hx ih =>
    refine .slb g hz hle hcap hn hs (fun x hxa hne => ?_) ih
    obtain ⟨h1, h2, h3⟩ := ha x hxa hne
    have hl : 0 < _ := Nat.mul_pos (List.length_pos_iff.2 hne) hz
    have hlt : x.block < C.w.heap.size := cell?_lt (a := ⟨x.block, x.off + 0, none⟩) (h3 0 hl)
    have := e.pers _ h2 hlt (cell?_data (a := ⟨x.block, x.off + 0, none⟩) (h3 0 hl))
    exact ⟨h1, this.2, fun k hk => (cell?_same (a := ⟨x.block, x.off + k, none⟩) (this.1)).trans (h3 k hk)⟩
  | slo hi hv h =>
    refine .slo (Nat.lt_of_lt_of_le hi e.len) (fun z v0 es hh => ?_) (fun z es hh => ?_)
    · obtain ⟨v1, es1, h1, h2, _⟩ := e.vec _ _ _ _ hi hh
      exact Nat.le_trans (hv _ _ _ h1) h2
    · obtain ⟨v1, es1, h1, h2, h3⟩ := e.vec _ _ _ _ hi hh
      have := hv _ _ _ h1
      have : v1 = _ := Nat.le_antisymm h2 this
      subst this
      obtain ⟨hlen, hv⟩ := h _ _ h1
      obtain ⟨e1, e2, e3⟩ := h3 rfl
      exact ⟨Nat.le_trans hlen e1, by rw [e2, e3]; exact hv⟩
  | mp h hb => obtain ⟨cs, h⟩ := h; have := e.mapo _ _ h; exact .mp this.1 (this.2.trans hb)
  | pm hb hL hm hs hk hv ihk ihv =>
    have := e.pers _ hb (heap_lt hm) (fun ds hh => by rw [hm] at hh; cases hh)
    exact .pm this.2 (fun hl => hL (e.lnt _ hl)) (this.1.trans hm) hs ihk ihv
  | fn h1 h2 hf hc ihf ihc => exact .fn h1 h2 ihf ihc
  | yl h hb => obtain ⟨cs, h⟩ := h; have := e.loopo _ _ h; exact .yl this.1 (this.2.trans hb)
  | agg h hx ih => exact .agg h ih
  | tup h hx ih => exact .tup h ih

theorem Vl.mono {C C' : Ctx} (e : Ext C C') {x : AV} {v : Value} (h : Vl C x v) : Vl C' x v := h.monoW e.toW

end Go.Ab
namespace Go.Ab
open Go

theorem Ext.trans {A B C : Ctx} (h : Ext A B) (k : Ext B C) : Ext A C where
  len := Nat.le_trans h.len k.len
  lnt := fun b hb => h.lnt b (k.lnt b hb)
  pers := fun b hb hs => by
    obtain ⟨h1, h2⟩ := h.pers b hb hs
    obtain ⟨k1, k2⟩ := k.pers b h2 (heap_lt (h1.trans (Array.getElem?_eq_getElem hs)))
    exact ⟨k1.trans h1, k2⟩
  var := fun i cs hi => by
    obtain ⟨⟨cs', h1⟩, h2⟩ := h.var i cs hi
    obtain ⟨k1, k2⟩ := k.var i cs' h1
    exact ⟨k1, k2.trans h2⟩
  mapo := fun i cs hi => by
    obtain ⟨⟨cs', h1⟩, h2⟩ := h.mapo i cs hi
    obtain ⟨k1, k2⟩ := k.mapo i cs' h1
    exact ⟨k1, k2.trans h2⟩
  loopo := fun i cs hi => by
    obtain ⟨⟨cs', h1⟩, h2⟩ := h.loopo i cs hi
    obtain ⟨k1, k2⟩ := k.loopo i cs' h1
    exact ⟨k1, k2.trans h2⟩
  vec := fun i z v' es' hi hh => by
    obtain ⟨v1, es1, h1, h2, h3⟩ := k.vec i z v' es' (Nat.lt_of_lt_of_le hi h.len) hh
    obtain ⟨v0, es0, g1, g2, g3⟩ := h.vec i z v1 es1 hi h1
    refine ⟨v0, es0, g1, Nat.le_trans g2 h2, fun e => ?_⟩
    obtain ⟨a1, a2, a3⟩ := h3 (by omega)
    obtain ⟨b1, b2, b3⟩ := g3 (by omega)
    exact ⟨Nat.le_trans b1 a1, a2.trans b2, a3.trans b3⟩

def FrOk (C : Ctx) (F : Frm) (tmps : Array Value) : Prop := ∀ k x, F.lookup k = some x → Vl C x (tmps.getD k undef)

/-- What an own object is in memory. -/
def ObjOk (C : Ctx) (i : Nat) : AObj → Prop
  | .var cs => ∃ b c e, C.β i = some b ∧ C.w.heap[b]? = some (.cells c e (0, 0)) ∧ c.size = cs.length ∧ ∀ k x, cs[k]? = some x → Vl C x (c.getD k undef)
  | .vec z _ es => 0 < z ∧ (∀ e ∈ es, e.cells.length = z) ∧ es.length ≤ C.κ i ∧
      ((C.β i = none ∧ C.κ i = 0) ∨ ∃ b c e, C.β i = some b ∧ C.w.heap[b]? = some (.cells c e (0, 0)) ∧ c.size = C.κ i * z ∧ ∀ k x, (flat es)[k]? = some x → Vl C x (c.getD k undef))
  | .mapo es => ∃ b ents clock, C.β i = some b ∧ C.w.heap[b]? = some (.map ents clock) ∧ ents.size = es.length ∧
      (∀ k e, es[k]? = some e → Vl C e.1 (ents.getD k default).key ∧ Vl C e.2 (ents.getD k default).val) ∧
      (∀ k, k < ents.size → (ents.getD k default).born < clock) ∧ (∀ j k, j < k → k < ents.size → (ents.getD j default).born ≠ (ents.getD k default).born)
  | .loopo l => ∃ b r, C.β i = some b ∧ C.w.heap[b]? = some (.loop r) ∧ r.state = l.state ∧ r.pending = l.pending ∧ r.params = l.params ∧ r.assign = l.assign ∧ r.body = l.body ∧
      r.tmps.size = l.N ∧ FrOk C l.F r.tmps
  | .dead => True

/-- What stays fixed during one call: the state at its begin, the known variables, the round. -/
structure Kon where
  C0 : Ctx
  G : List (Nat × List Value)
  rb : Option Nat

structure Hp (K : Kon) (C : Ctx) : Prop where
  X : C.X = K.C0.X
  xown : ∀ b, C.X b → ¬ C.own b
  xlt : ∀ b, C.X b → b < K.C0.w.heap.size
  L : C.L = K.C0.L
  lown : ∀ b, C.L b → ¬ C.own b
  llt : ∀ b, C.L b → b < K.C0.w.heap.size
  inj : ∀ i j b, i < C.H.length → j < C.H.length → C.β i = some b → C.β j = some b → i = j
  lt : ∀ i b, i < C.H.length → C.β i = some b → b < C.w.heap.size
  obj : ∀ i o, C.H[i]? = some o → ObjOk C i o
  ext : Ext K.C0 C
  os : C.w.os = K.C0.w.os
  tape : C.w.tape = K.C0.w.tape
  output : C.w.output = K.C0.w.output
  size : K.C0.w.heap.size ≤ C.w.heap.size
  same : ∀ b, b < K.C0.w.heap.size → ¬ K.C0.own b → C.w.heap[b]? = K.C0.w.heap[b]?
  ownn : ∀ b, C.own b → K.C0.own b ∨ K.C0.w.heap.size ≤ b
  glob : ∀ g cs, (g, cs) ∈ K.G → Vl C (.rp (cs.map .raw)) (.pointer (some ⟨g, 0, none⟩))

theorem FrOk.monoW {C C' : Ctx} (e : ExtW C C') {F : Frm} {t : Array Value} (h : FrOk C F t) : FrOk C' F t := fun k x hx => (h k x hx).monoW e
theorem FrOk.mono {C C' : Ctx} (e : Ext C C') {F : Frm} {t : Array Value} (h : FrOk C F t) : FrOk C' F t := h.monoW e.toW

/-- An object whose block has not turned. -/
theorem ObjOk.monoW {C C' : Ctx} (e : ExtW C C') {i : Nat} {o : AObj} (hβ : C'.β i = C.β i) (hκ : C'.κ i = C.κ i)
    (hb : ∀ b, C.β i = some b → C'.w.heap[b]? = C.w.heap[b]?) (h : ObjOk C i o) : ObjOk C' i o := by
  cases o with
  | var cs =>
    obtain ⟨b, c, t, h1, h2, h3, h4⟩ := h
    exact ⟨b, c, t, hβ.trans h1, (hb b h1).trans h2, h3, fun k x hx => (h4 k x hx).monoW e⟩
  | vec z ver es =>
    obtain ⟨h0, h1, h2, h3⟩ := h
    refine ⟨h0, h1, by rw [hκ]; exact h2, ?_⟩
    rcases h3 with h3 | ⟨b, c, t, h4, h5, h6, h7⟩
    · exact .inl ⟨hβ.trans h3.1, hκ.trans h3.2⟩
    · exact .inr ⟨b, c, t, hβ.trans h4, (hb b h4).trans h5, by rw [hκ]; exact h6, fun k x hx => (h7 k x hx).monoW e⟩
  | mapo es =>
    obtain ⟨b, ents, clock, h1, h2, h3, h4, h5⟩ := h
    exact ⟨b, ents, clock, hβ.trans h1, (hb b h1).trans h2, h3, fun k x hx => ⟨(h4 k x hx).1.monoW e, (h4 k x hx).2.monoW e⟩, h5⟩
  | loopo l =>
    obtain ⟨b, r, h1, h2, h3, h4, h5, h6, h7, h8, h9⟩ := h
    exact ⟨b, r, hβ.trans h1, (hb b h1).trans h2, h3, h4, h5, h6, h7, h8, h9.monoW e⟩
  | dead => trivial

theorem ObjOk.mono {C C' : Ctx} (e : Ext C C') {i : Nat} {o : AObj} (hβ : C'.β i = C.β i) (hκ : C'.κ i = C.κ i)
    (hb : ∀ b, C.β i = some b → C'.w.heap[b]? = C.w.heap[b]?) (h : ObjOk C i o) : ObjOk C' i o := h.monoW e.toW hβ hκ hb

/-- The world turns outside of what is told: a draw, a new block that nothing owns. -/
theorem Hp.world {K : Kon} {C : Ctx} (h : Hp K C) (w' : World) (hos : w'.os = C.w.os) (htape : w'.tape = C.w.tape) (hout : w'.output = C.w.output)
    (hsz : C.w.heap.size ≤ w'.heap.size) (hsame : ∀ b, b < C.w.heap.size → w'.heap[b]? = C.w.heap[b]?) :
    Ext C { C with w := w' } ∧ Hp K { C with w := w' } := by
  have e : Ext C { C with w := w' } :=
    { len := Nat.le_refl _, lnt := fun _ h => h, pers := fun b hb hs => ⟨hsame b hs, hb⟩, var := fun _ cs h => ⟨⟨cs, h⟩, rfl⟩, mapo := fun _ cs h => ⟨⟨cs, h⟩, rfl⟩,
      loopo := fun _ cs h => ⟨⟨cs, h⟩, rfl⟩, vec := fun _ _ v' es' _ h => ⟨v', es', h, Nat.le_refl _, fun _ => ⟨Nat.le_refl _, rfl, rfl⟩⟩ }
  exact ⟨e,
    { X := h.X, xown := h.xown, xlt := h.xlt, L := h.L, lown := h.lown, llt := h.llt, inj := h.inj, lt := fun i b hi hb => Nat.lt_of_lt_of_le (h.lt i b hi hb) hsz
      obj := fun i o ho => (h.obj i o ho).mono e rfl rfl (fun b hb => hsame b (h.lt i b (by
        rcases Nat.lt_or_ge i C.H.length with h' | h'
        · exact h'
        · have ho' : C.H[i]? = some o := ho
          rw [List.getElem?_eq_none h'] at ho'; cases ho') hb))
      ext := h.ext.trans e, os := hos.trans h.os, tape := htape.trans h.tape, output := hout.trans h.output, size := Nat.le_trans h.size hsz
      same := fun b hb hn => (hsame b (Nat.lt_of_lt_of_le hb h.size)).trans (h.same b hb hn), ownn := h.ownn, glob := fun g cs hg => (h.glob g cs hg).mono e }⟩

theorem get_lt {α : Type} {l : List α} {i : Nat} {x : α} (h : l[i]? = some x) : i < l.length := by
  rcases Nat.lt_or_ge i l.length with h' | h'
  · exact h'
  · rw [List.getElem?_eq_none h'] at h; cases h

/-- A new own object in a new block. -/
theorem Hp.push {K : Kon} {C : Ctx} (h : Hp K C) (w' : World) (o : AObj) (cap : Nat) (hos : w'.os = C.w.os) (htape : w'.tape = C.w.tape) (hout : w'.output = C.w.output)
    (hsz : w'.heap.size = C.w.heap.size + 1) (hsame : ∀ b, b < C.w.heap.size → w'.heap[b]? = C.w.heap[b]?)
    (C' : Ctx) (hC : C' = { C with w := w', H := C.H ++ [o], β := fun j => if j = C.H.length then some C.w.heap.size else C.β j, κ := fun j => if j = C.H.length then cap else C.κ j })
    (ho : Ext C C' → ObjOk C' C.H.length o) : Ext C C' ∧ Hp K C' := by
  subst hC
  have hown : ∀ b, Ctx.own { C with w := w', H := C.H ++ [o], β := fun j => if j = C.H.length then some C.w.heap.size else C.β j, κ := fun j => if j = C.H.length then cap else C.κ j } b → C.own b ∨ b = C.w.heap.size := by
    intro b ⟨i, hi, hb⟩
    simp at hi hb
    split at hb
    · right; cases hb; rfl
    · left; exact ⟨i, by omega, hb⟩
  have e : Ext C { C with w := w', H := C.H ++ [o], β := fun j => if j = C.H.length then some C.w.heap.size else C.β j, κ := fun j => if j = C.H.length then cap else C.κ j } :=
    { len := by simp, lnt := fun _ h => h, pers := fun b hb hs => ⟨hsame b hs, fun hbad => by
        rcases hbad with hx | hx
        · exact hb (.inl hx)
        · rcases hown b hx with h1 | h1
          · exact hb (.inr h1)
          · omega⟩
      var := fun i cs hi => by have hl := get_lt hi; exact ⟨⟨cs, by simpa [List.getElem?_append_left hl] using hi⟩, by simp [Nat.ne_of_lt hl]⟩
      mapo := fun i cs hi => by have hl := get_lt hi; exact ⟨⟨cs, by simpa [List.getElem?_append_left hl] using hi⟩, by simp [Nat.ne_of_lt hl]⟩
      loopo := fun i cs hi => by have hl := get_lt hi; exact ⟨⟨cs, by simpa [List.getElem?_append_left hl] using hi⟩, by simp [Nat.ne_of_lt hl]⟩
      vec := fun i z v' es' hl hh => by
        rw [List.getElem?_append_left hl] at hh
        exact ⟨v', es', hh, Nat.le_refl _, fun _ => ⟨Nat.le_refl _, by simp [Nat.ne_of_lt hl], by simp [Nat.ne_of_lt hl]⟩⟩ }
  refine ⟨e, ?_⟩
  refine
    { X := h.X, xown := fun b hx ho' => ?_, xlt := h.xlt, L := h.L, lown := fun b hx ho' => ?_, llt := h.llt, inj := fun i j b hi hj hbi hbj => ?_, lt := fun i b hi hb => ?_, obj := fun i o' hio => ?_
      ext := h.ext.trans e, os := hos.trans h.os, tape := htape.trans h.tape, output := hout.trans h.output, size := by have := h.size; simp only []; omega
      same := fun b hb hn => (hsame b (Nat.lt_of_lt_of_le hb h.size)).trans (h.same b hb hn), ownn := fun b hb => ?_, glob := fun g cs hg => (h.glob g cs hg).mono e }
  · rcases hown b ho' with h1 | h1
    · exact h.xown b hx h1
    · have := h.xlt b hx; have := h.size; omega
  · rcases hown b ho' with h1 | h1
    · exact h.lown b hx h1
    · have := h.llt b hx; have := h.size; omega
  · simp at hi hj hbi hbj
    split at hbi <;> split at hbj
    · omega
    · cases hbi; have := h.lt j _ (by omega) hbj; omega
    · cases hbj; have := h.lt i _ (by omega) hbi; omega
    · exact h.inj i j b (by omega) (by omega) hbi hbj
  · simp at hi hb
    split at hb
    · cases hb; simp only []; omega
    · have := h.lt i b (by omega) hb; simp only []; omega
  · rcases Nat.lt_or_ge i C.H.length with hl | hl
    · simp only [List.getElem?_append_left hl] at hio
      exact (h.obj i o' hio).mono e (by simp [Nat.ne_of_lt hl]) (by simp [Nat.ne_of_lt hl]) (fun b hb => hsame b (h.lt i b hl hb))
    · have hi := get_lt hio
      simp at hi
      have : i = C.H.length := by omega
      subst this
      simp at hio
      subst hio
      exact ho e
  · rcases hown b hb with h1 | h1
    · exact h.ownn b h1
    · right; have := h.size; omega

/-- One own object turns, in its own block or in a new one. -/
theorem Hp.upd {K : Kon} {C : Ctx} (h : Hp K C) (w' : World) (i : Nat) (hi : i < C.H.length) (o : AObj) (b' : Option Nat) (cap : Nat)
    (hos : w'.os = C.w.os) (htape : w'.tape = C.w.tape) (hout : w'.output = C.w.output)
    (hsz : C.w.heap.size ≤ w'.heap.size) (hsame : ∀ b, b < C.w.heap.size → C.β i ≠ some b → w'.heap[b]? = C.w.heap[b]?)
    (hb' : b' = C.β i ∨ ∃ b, b' = some b ∧ C.w.heap.size ≤ b ∧ b < w'.heap.size)
    (C' : Ctx) (hC : C' = { C with w := w', H := C.H.set i o, β := fun j => if j = i then b' else C.β j, κ := fun j => if j = i then cap else C.κ j })
    (hk : match C.H[i]?, o with
      | some (.var _), .var _ => b' = C.β i
      | some (.mapo _), .mapo _ => b' = C.β i
      | some (.loopo _), .loopo _ => b' = C.β i
      | some (.vec z v es), .vec z' v' es' => z' = z ∧ v ≤ v' ∧ (v = v' → es.length ≤ es'.length ∧ b' = C.β i ∧ cap = C.κ i)
      | some .dead, .var _ => True
      | some .dead, .mapo _ => True
      | _, _ => False)
    (ho : Ext C C' → ObjOk C' i o) : Ext C C' ∧ Hp K C' := by
  subst hC
  have hown : ∀ b, Ctx.own { C with w := w', H := C.H.set i o, β := fun j => if j = i then b' else C.β j, κ := fun j => if j = i then cap else C.κ j } b → C.own b ∨ C.w.heap.size ≤ b := by
    intro b ⟨j, hj, hb⟩
    simp at hj hb
    split at hb
    · rcases hb' with h1 | ⟨b2, h1, h2, _⟩
      · left; exact ⟨i, hi, by rw [← h1]; exact hb⟩
      · right; rw [h1] at hb; cases hb; exact h2
    · left; exact ⟨j, hj, hb⟩
  have hset : ∀ j, j ≠ i → (C.H.set i o)[j]? = C.H[j]? := fun j hj => by rw [List.getElem?_set_ne (Ne.symm hj)]
  have hseti : (C.H.set i o)[i]? = some o := by rw [List.getElem?_set_self hi]
  have hHi : C.H[i]? = some C.H[i] := List.getElem?_eq_getElem hi
  have e : Ext C { C with w := w', H := C.H.set i o, β := fun j => if j = i then b' else C.β j, κ := fun j => if j = i then cap else C.κ j } := by
    refine { len := by simp, lnt := fun _ h => h, pers := fun b hb hs => ⟨hsame b hs (fun hh => hb (.inr ⟨i, hi, hh⟩)), fun hbad => ?_⟩, var := fun j cs hj => ?_, mapo := fun j cs hj => ?_, loopo := fun j cs hj => ?_, vec := fun j z v' es' hl hh => ?_ }
    · rcases hbad with hx | hx
      · exact hb (.inl hx)
      · rcases hown b hx with h1 | h1
        · exact hb (.inr h1)
        · omega
    · by_cases hji : j = i
      · subst hji
        rw [hj] at hk
        cases o with
        | var cs' => exact ⟨⟨cs', hseti⟩, by simpa using hk⟩
        | _ => exact hk.elim
      · exact ⟨⟨cs, by simp only [hset j hji]; exact hj⟩, by simp [hji]⟩
    · by_cases hji : j = i
      · subst hji
        rw [hj] at hk
        cases o with
        | mapo cs' => exact ⟨⟨cs', hseti⟩, by simpa using hk⟩
        | _ => exact hk.elim
      · exact ⟨⟨cs, by simp only [hset j hji]; exact hj⟩, by simp [hji]⟩
    · by_cases hji : j = i
      · subst hji
        rw [hj] at hk
        cases o with
        | loopo cs' => exact ⟨⟨cs', hseti⟩, by simpa using hk⟩
        | _ => exact hk.elim
      · exact ⟨⟨cs, by simp only [hset j hji]; exact hj⟩, by simp [hji]⟩
    · by_cases hji : j = i
      · subst hji
        simp only [hseti] at hh
        cases hh
        rw [hHi] at hk
        cases hH : C.H[j] with
        | vec z0 v0 es0 =>
          rw [hH] at hk
          obtain ⟨h1, h2, h3⟩ := hk
          subst h1
          exact ⟨v0, es0, by rw [hHi, hH], h2, fun hv => by obtain ⟨a1, a2, a3⟩ := h3 hv; exact ⟨a1, by simpa using a2, by simpa using a3⟩⟩
        | var _ => rw [hH] at hk; exact hk.elim
        | mapo _ => rw [hH] at hk; exact hk.elim
        | loopo _ => rw [hH] at hk; exact hk.elim
        | dead => rw [hH] at hk; exact hk.elim
      · simp only [hset j hji] at hh
        exact ⟨v', es', hh, Nat.le_refl _, fun _ => ⟨Nat.le_refl _, by simp [hji], by simp [hji]⟩⟩
  refine ⟨e, ?_⟩
  refine
    { X := h.X, xown := fun b hx ho' => ?_, xlt := h.xlt, L := h.L, lown := fun b hx ho' => ?_, llt := h.llt, inj := fun j k b hj hk' hbj hbk => ?_, lt := fun j b hj hb => ?_, obj := fun j o' hjo => ?_
      ext := h.ext.trans e, os := hos.trans h.os, tape := htape.trans h.tape, output := hout.trans h.output, size := Nat.le_trans h.size hsz
      same := fun b hb hn => (hsame b (Nat.lt_of_lt_of_le hb h.size) (fun hh => ?_)).trans (h.same b hb hn), ownn := fun b hb => ?_, glob := fun g cs hg => (h.glob g cs hg).mono e }
  · rcases hown b ho' with h1 | h1
    · exact h.xown b hx h1
    · have := h.xlt b hx; have := h.size; omega
  · rcases hown b ho' with h1 | h1
    · exact h.lown b hx h1
    · have := h.llt b hx; have := h.size; omega
  · simp at hj hk' hbj hbk
    split at hbj <;> split at hbk
    · omega
    · rename_i e1 e2
      rcases hb' with h1 | ⟨b2, h1, h2, _⟩
      · exact absurd (h.inj i k b hi hk' (by rw [← h1]; exact hbj) hbk) (fun hh => e2 hh.symm)
      · rw [h1] at hbj; cases hbj; have := h.lt k _ hk' hbk; omega
    · rename_i e1 e2
      rcases hb' with h1 | ⟨b2, h1, h2, _⟩
      · exact absurd (h.inj j i b hj hi hbj (by rw [← h1]; exact hbk)) e1
      · rw [h1] at hbk; cases hbk; have := h.lt j _ hj hbj; omega
    · exact h.inj j k b hj hk' hbj hbk
  · simp at hj hb
    split at hb
    · rcases hb' with h1 | ⟨b2, h1, h2, h3⟩
      · exact Nat.lt_of_lt_of_le (h.lt i b hi (by rw [← h1]; exact hb)) hsz
      · rw [h1] at hb; cases hb; exact h3
    · exact Nat.lt_of_lt_of_le (h.lt j b hj hb) hsz
  · by_cases hji : j = i
    · subst hji
      simp only [hseti] at hjo
      cases hjo
      exact ho e
    · simp only [hset j hji] at hjo
      have hjl := get_lt hjo
      refine (h.obj j o' hjo).mono e (by simp [hji]) (by simp [hji]) (fun b hb => hsame b (h.lt j b hjl hb) (fun hh => ?_))
      exact hji (h.inj j i b hjl hi hb hh)
  · exact (h.ownn b ⟨i, hi, hh⟩).elim hn (fun h1 => by omega)
  · rcases hown b hb with h1 | h1
    · exact h.ownn b h1
    · right; have := h.size; omega

end Go.Ab
namespace Go.Ab
open Go

/-- The marks that ranges over functions have left among the deferred calls. -/
def Marks (K : Kon) (C : Ctx) (ds : List Deferred) : Prop :=
  ∃ Ds : List Nat, ds = Ds.map (fun D => { target := .collected D, args := #[] }) ∧ Ds.Nodup ∧
    ∀ D ∈ Ds, C.w.heap[D]? = some (.deferred (some [])) ∧ ¬ C.bad D ∧ K.C0.w.heap.size ≤ D

theorem Marks.mono {K : Kon} {C C' : Ctx} (e : Ext C C') {ds : List Deferred} (h : Marks K C ds) : Marks K C' ds := by
  obtain ⟨Ds, h1, h2, h3⟩ := h
  refine ⟨Ds, h1, h2, fun D hD => ?_⟩
  obtain ⟨a, b, c⟩ := h3 D hD
  have := e.pers D b (heap_lt a)
  exact ⟨this.1.trans a, this.2, c⟩

structure St (K : Kon) (C : Ctx) (N : Nat) (F : Frm) (a : Act) : Prop where
  hp : Hp K C
  size : a.tmps.size = N
  fr : FrOk C F a.tmps
  marks : Marks K C a.defers

structure Env where
  P : Program
  G : List (Nat × List Value)
  n0 : Nat
  N : Nat
  rd : Bool

def rnd (rb : Option Nat) : Fence := { Fence.wide with round := rb }
theorem rnd_none : rnd none = Fence.wide := rfl
theorem rnd_inRound (l : Nat) : Fence.wide.inRound l = rnd (some l) := rfl

def post (K : Kon) (N : Nat) (Q : Exit → Frm → Heap → Prop) : Exit → Act → World → Prop :=
  fun e a' w' => ∃ F' C', C'.w = w' ∧ St K C' N F' a' ∧ Q e F' C'.H

/-- From the state (F, H) the code ends in Q. -/
def AWp (E : Env) (c : Code) (Q : Exit → Frm → Heap → Prop) (F : Frm) (H : Heap) : Prop :=
  ∀ (K : Kon) (C : Ctx) (a : Act), K.C0.H.length = E.n0 → K.rb.isSome = E.rd → K.G = E.G → St K C E.N F a → C.H = H →
    c.wpIn (rnd K.rb) 0 E.P (post K E.N Q) a C.w

def thenQ (next : Frm → Heap → Prop) (Q : Exit → Frm → Heap → Prop) : Exit → Frm → Heap → Prop
  | .normal, F, H => next F H
  | e, F, H => Q e F H

def blockQ (id : Nat) (Q : Exit → Frm → Heap → Prop) : Exit → Frm → Heap → Prop
  | .exit id', F, H => if id' = id then Q .normal F H else Q (.exit id') F H
  | e, F, H => Q e F H

section rules
variable {E : Env} {Q : Exit → Frm → Heap → Prop} {F : Frm} {H : Heap}

theorem awp_mono {c : Code} {Q' : Exit → Frm → Heap → Prop} (h : AWp E c Q F H) (hq : ∀ e F H, Q e F H → Q' e F H) : AWp E c Q' F H :=
  fun K C a h1 h2 h3 h4 h5 => wpIn_mono (h K C a h1 h2 h3 h4 h5) fun e a w ⟨F', C', h1, h2, h3⟩ => ⟨F', C', h1, h2, hq _ _ _ h3⟩

theorem awp_skip (h : Q .normal F H) : AWp E .skip Q F H := fun K C a _ _ _ h4 h5 => wpIn_skip ⟨F, C, rfl, h4, h5 ▸ h⟩
theorem awp_label {l : Nat} (h : Q .normal F H) : AWp E (.label l) Q F H := fun K C a _ _ _ h4 h5 => wpIn_label ⟨F, C, rfl, h4, h5 ▸ h⟩
theorem awp_exit {id : Nat} (h : Q (.exit id) F H) : AWp E (.exit id) Q F H := fun K C a _ _ _ h4 h5 => wpIn_exit ⟨F, C, rfl, h4, h5 ▸ h⟩
theorem awp_ret (h : Q .ret F H) : AWp E .ret Q F H := fun K C a _ _ _ h4 h5 => wpIn_ret ⟨F, C, rfl, h4, h5 ▸ h⟩

theorem awp_seq {x y : Code} (h : AWp E x (thenQ (AWp E y Q) Q) F H) : AWp E (.seq x y) Q F H := by
  intro K C a h1 h2 h3 h4 h5
  refine wpIn_seq (wpIn_mono (h K C a h1 h2 h3 h4 h5) ?_)
  rintro e a' w' ⟨F', C', rfl, g2, g3⟩
  cases e with
  | normal => exact g3 K C' a' h1 h2 h3 g2 rfl
  | _ => exact ⟨F', C', rfl, g2, g3⟩

theorem awp_block {id : Nat} {c : Code} (h : AWp E c (blockQ id Q) F H) : AWp E (.block id c) Q F H := by
  intro K C a h1 h2 h3 h4 h5
  refine wpIn_block (wpIn_mono (h K C a h1 h2 h3 h4 h5) ?_)
  rintro e a' w' ⟨F', C', rfl, g2, g3⟩
  cases e with
  | exit id' =>
    simp only [blockQ] at g3
    simp only [Exit.inBlock]
    split <;> rename_i hid
    · rw [if_pos hid] at g3; exact ⟨F', C', rfl, g2, g3⟩
    · rw [if_neg hid] at g3; exact ⟨F', C', rfl, g2, g3⟩
  | _ => exact ⟨F', C', rfl, g2, g3⟩

def ev (F : Frm) : Operand → AV
  | .tmp t => (F.lookup t).getD .any
  | .const (.agg cs) => .agg (cs.toList.map .raw)
  | .const v => .raw v
  | .global g => .raw (.pointer (some ⟨g, 0, none⟩))
  | .func f => .fn f [] []

theorem ev_ok {C : Ctx} {a : Act} (h : FrOk C F a.tmps) (x : Operand) : Vl C (ev F x) (a.eval x) := by
  cases x with
  | tmp t =>
    simp only [ev, Act.eval]
    cases hl : F.lookup t with
    | none => exact .any _
    | some v => exact h t v hl
  | const v =>
    cases v with
    | agg cs =>
      refine .agg (by simp) (fun k x hx => ?_)
      simp only [List.getElem?_map, Option.map_eq_some_iff, Array.getElem?_toList] at hx
      obtain ⟨y, hy, rfl⟩ := hx
      have hlt : k < cs.size := by
        rcases Nat.lt_or_ge k cs.size with h' | h'
        · exact h'
        · rw [Array.getElem?_eq_none h'] at hy; cases hy
      have : cs.getD k undef = y := by
        rw [Array.getElem?_eq_getElem hlt] at hy; cases hy; simp [hlt]
      rw [this]; exact .raw y
    | _ => exact .raw _
  | global g => exact .raw _
  | func f => exact .fn rfl rfl (fun k x hx => by simp at hx) (fun k x hx => by simp at hx)

theorem Vl.raw_inv {C : Ctx} {v v' : Value} (h : Vl C (.raw v) v') : v' = v := by cases h; rfl

theorem awp_cond {c : Operand} {x y : Code} {t : Bool} (hc : ev F c = .raw (.bool t)) (ht : t = true → AWp E x Q F H) (hf : t = false → AWp E y Q F H) :
    AWp E (.cond c x y) Q F H := by
  intro K C a h1 h2 h3 h4 h5
  have : a.eval c = .bool t := Vl.raw_inv (hc ▸ ev_ok h4.fr c)
  exact wpIn_cond_split this (fun e => ht e K C a h1 h2 h3 h4 h5) (fun e => hf e K C a h1 h2 h3 h4 h5)

/-- A loop, by an index that falls. -/
theorem wpIn_loop_idx {Fe : Fence} {n : Nat} {P : Program} {Q : Exit → Act → World → Prop} {c : Code} (I : Nat → Act → World → Prop)
    (round : ∀ j a w, I j a w → c.wpIn Fe n P (Exit.then (fun a' w' => ∃ j', j' < j ∧ I j' a' w') Q) a w) :
    ∀ j a w, I j a w → (Code.loop c).wpIn Fe n P Q a w := by
  intro j a w h0 b k cs hro hb hr
  have key : ∀ j a w, I j a w →
      ∃ e a' w', Q e a' w' ∧ ArrivesIn (Machine.fenced P Fe) P (lone (b.atR a (.code c :: .inLoop c :: k)) cs w) b k cs e a' w' := by
    intro j
    induction j using Nat.strongRecOn with
    | _ j ih =>
      intro a w hI
      obtain ⟨e, a₁, w₁, hq, harr⟩ := round j a w hI b (.inLoop c :: k) cs hro hb hr
      cases e with
      | normal =>
        obtain ⟨j', hlt, hI₁⟩ := hq
        obtain ⟨e₂, a₂, w₂, hq₂, harr₂⟩ := ih j' hlt a₁ w₁ hI₁
        exact ⟨e₂, a₂, w₂, hq₂, .of_steps (StepsIn.trans harr (.one (fenced_calm hb hr rfl) stepR_inLoop)) harr₂⟩
      | exit id => exact ⟨_, a₁, w₁, hq, .pass (x := .inLoop c) rfl (fun _ _ => .inl (by simp)) harr⟩
      | goto l => exact ⟨_, a₁, w₁, hq, .pass (x := .inLoop c) rfl (fun _ _ => .inl (by simp)) harr⟩
      | ret => exact ⟨_, a₁, w₁, hq, .pass (x := .inLoop c) rfl (fun _ _ => .inl (by simp)) harr⟩
      | panic ch => exact ⟨_, a₁, w₁, hq, .pass (x := .inLoop c) rfl (fun _ _ => .inl (by simp)) harr⟩
      | outgrown => exact ⟨_, a₁, w₁, hq, .pass (x := .inLoop c) rfl (fun _ _ => .inl (by simp)) harr⟩
  obtain ⟨e, a', w', hq, harr⟩ := key j a w h0
  exact ⟨e, a', w', hq, .of_steps (.one (fenced_calm hb hr rfl) stepR_loop) harr⟩

theorem awp_loop {ι : Type} {c : Code} (I : ι → Frm → Heap → Prop) (μ : ι → Nat) (i : ι) (h0 : I i F H)
    (round : ∀ i F H, I i F H → AWp E c (thenQ (fun F' H' => ∃ j, I j F' H' ∧ μ j < μ i) Q) F H) : AWp E (.loop c) Q F H := by
  intro K C a h1 h2 h3 h4 h5
  refine wpIn_loop_idx (fun j a w => ∃ i F C, C.w = w ∧ St K C E.N F a ∧ I i F C.H ∧ μ i = j) ?_ (μ i) a C.w ⟨i, F, C, rfl, h4, h5 ▸ h0, rfl⟩
  rintro j a w ⟨i, F, C, rfl, g1, g2, rfl⟩
  refine wpIn_mono (round i F C.H g2 K C a h1 h2 h3 g1 rfl) ?_
  rintro e a' w' ⟨F', C', rfl, k2, k3⟩
  cases e with
  | normal =>
    obtain ⟨j, hj, hlt⟩ := k3
    exact ⟨μ j, hlt, j, F', C', rfl, k2, hj, rfl⟩
  | _ => exact ⟨F', C', rfl, k2, k3⟩
end rules

end Go.Ab
namespace Go.Ab
open Go

def tagg (P : Program) (t : TypeId) : Option Bool :=
  (P.underlying t).map fun | .struct _ => true | .array _ _ => true | _ => false
def tsize (P : Program) (t : TypeId) : Option Nat := (P.info? t).map (·.size)

def rdCells (H : Heap) (a : AV) (n : Nat) : Option (List AV) :=
  match a with
  | .ptr i off => match H[i]? with
    | some (.var cs) => if off + n ≤ cs.length then some ((cs.drop off).take n) else none
    | _ => none
  | .pel i ver j off => match H[i]? with
    | some (.vec _ v es) => if v = ver then match es[j]? with
        | some e => if off + n ≤ e.cells.length then some ((e.cells.drop off).take n) else none
        | none => none
      else none
    | _ => none
  | .rp cs => if n ≤ cs.length then some (cs.take n) else none
  | _ => none

theorem add_none (b o k : Nat) : (⟨b, o, none⟩ : Addr).add k = ⟨b, o + k, none⟩ := by
  unfold Addr.add; split <;> simp_all

theorem cell_cells {w : World} {b : Nat} {c : Array Value} {e : TypeId} {f : Nat × Nat} (h : w.heap[b]? = some (.cells c e f)) {o : Nat} (ho : o < c.size) :
    w.cell? ⟨b, o, none⟩ = some (c.getD o undef) := by
  unfold World.cell?; simp [h, ho]

theorem flat_length {z : Nat} {es : List AV} (h : ∀ e ∈ es, e.cells.length = z) : (flat es).length = es.length * z := by
  induction es with
  | nil => simp [flat]
  | cons e es ih =>
    have h1 := h e (by simp)
    have h2 := ih (fun x hx => h x (by simp [hx]))
    unfold flat at h2 ⊢
    rw [List.flatMap_cons, List.length_append, h2, h1, List.length_cons]
    rw [Nat.add_mul]; omega

theorem flat_get {z : Nat} : ∀ {es : List AV}, (∀ e ∈ es, e.cells.length = z) → ∀ {j : Nat} {e : AV}, es[j]? = some e → ∀ {k : Nat}, k < z → (flat es)[j * z + k]? = e.cells[k]?
  | [], _, j, e, h, k, hk => by simp at h
  | x :: es, hz, j, e, h, k, hk => by
    have hx := hz x (by simp)
    simp only [flat, List.flatMap_cons]
    cases j with
    | zero => simp at h; subst h; rw [List.getElem?_append_left (by omega)]; simp
    | succ j =>
      simp at h
      rw [List.getElem?_append_right (by rw [Nat.add_mul]; omega)]
      have := flat_get (es := es) (fun y hy => hz y (by simp [hy])) h hk
      simp only [flat] at this
      rw [← this]
      congr 1
      rw [Nat.add_mul]; omega

theorem rdCells_ok {K : Kon} {C : Ctx} (hp : Hp K C) {a : AV} {v : Value} (hv : Vl C a v) {n : Nat} {cs : List AV} (h : rdCells C.H a n = some cs) :
    ∃ b o, v = .pointer (some ⟨b, o, none⟩) ∧ cs.length = n ∧ ∀ k x, cs[k]? = some x → ∃ u, C.w.cell? ⟨b, o + k, none⟩ = some u ∧ Vl C x u := by
  cases hv with
  | ptr hh hb =>
    rename_i i off b
    obtain ⟨cs0, hh⟩ := hh
    simp only [rdCells, hh] at h
    split at h <;> simp at h
    rename_i hle
    subst h
    obtain ⟨b', c, e, h1, h2, h3, h4⟩ := hp.obj i _ hh
    rw [hb] at h1; cases h1
    refine ⟨b, off, rfl, by simp; omega, fun k x hx => ?_⟩
    have hk : k < n := by have := get_lt hx; simp at this; omega
    rw [List.getElem?_take_of_lt hk, List.getElem?_drop] at hx
    exact ⟨_, cell_cells h2 (by omega), h4 _ _ hx⟩
  | pel hi hv hh =>
    rename_i i ver j off
    simp only [rdCells] at h
    split at h
    · rename_i z vv es hes
      split at h
      · rename_i hver
        subst hver
        split at h
        · rename_i e he
          split at h <;> simp at h
          rename_i hle
          subst h
          obtain ⟨hj, b, hb, rfl⟩ := hh _ _ hes
          obtain ⟨h0, h1, h2, h3⟩ := hp.obj i _ hes
          rcases h3 with h3 | ⟨b', c, t, h4, h5, h6, h7⟩
          · rw [hb] at h3; cases h3.1
          rw [hb] at h4; cases h4
          have hz := h1 e (List.mem_of_getElem? he)
          refine ⟨b, j * z + off, rfl, by simp; omega, fun k x hx => ?_⟩
          have hk : k < n := by have := get_lt hx; simp at this; omega
          rw [List.getElem?_take_of_lt hk, List.getElem?_drop] at hx
          have hfl : (flat es)[j * z + (off + k)]? = some x := (flat_get h1 he (by omega)).trans hx
          have hl : j * z + (off + k) < c.size := by
            have h8 := get_lt hfl
            have hf := flat_length h1
            have : es.length * z ≤ C.κ i * z := Nat.mul_le_mul_right z h2
            omega
          rw [Nat.add_assoc]
          exact ⟨_, cell_cells h5 hl, h7 _ _ hfl⟩
        · cases h
      · cases h
    · cases h
  | rp g hb hs hc hx =>
    rename_i cs0 b off
    simp only [rdCells] at h
    split at h <;> simp at h
    rename_i hle
    subst h
    refine ⟨b, off, rfl, by simp; omega, fun k x hx' => ?_⟩
    have hk : k < n := by have := get_lt hx'; simp at this; omega
    rw [List.getElem?_take_of_lt hk] at hx'
    exact ⟨_, hc k (by omega), hx _ _ hx'⟩
  | _ => simp [rdCells] at h

def rdVar (P : Program) (t : TypeId) (H : Heap) (a : AV) : Option AV :=
  match tagg P t with
  | some true => match tsize P t with
    | some n => (rdCells H a n).map .agg
    | none => none
  | some false => (rdCells H a 1).bind (·[0]?)
  | none => none

theorem tagg_run {P : Program} {t : TypeId} {g : Bool} (h : tagg P t = some g) (w : World) : (isAgg t).run P w = .ok g w := by
  unfold tagg at h
  cases hu : P.underlying t with
  | none => simp [hu] at h
  | some d =>
    simp [hu] at h
    unfold isAgg
    rw [Sem.run_bind, run_underlying hu w]
    cases d <;> simp_all

theorem tsize_run {P : Program} {t : TypeId} {n : Nat} (h : tsize P t = some n) (w : World) : (sizeOf t).run P w = .ok n w := by
  unfold tsize at h
  cases hi : P.info? t with
  | none => simp [hi] at h
  | some i => simp [hi] at h; simp [sizeOf, typeInfo, hi, h]

theorem rdVar_ok {P : Program} {t : TypeId} {K : Kon} {C : Ctx} (hp : Hp K C) {a : AV} {v : Value} (hv : Vl C a v) {x : AV} (h : rdVar P t C.H a = some x) :
    ∃ b o u, v = .pointer (some ⟨b, o, none⟩) ∧ (loadVar t ⟨b, o, none⟩).run P C.w = .ok u C.w ∧ Vl C x u := by
  unfold rdVar at h
  split at h
  · rename_i hg
    split at h
    · rename_i n hn
      rw [Option.map_eq_some_iff] at h
      obtain ⟨cs, hcs, rfl⟩ := h
      obtain ⟨b, o, rfl, hl, hc⟩ := rdCells_ok hp hv hcs
      have hf : ∀ j, j < n → ∃ u, C.w.cell? ⟨b, o + j, none⟩ = some u ∧ ∀ x, cs[j]? = some x → Vl C x u := fun j hj => by
        obtain ⟨u, h1, h2⟩ := hc j _ (List.getElem?_eq_getElem (by omega))
        exact ⟨u, h1, fun x hx => by rw [List.getElem?_eq_getElem (by omega)] at hx; cases hx; exact h2⟩
      let f : Nat → Value := fun j => (C.w.cell? ⟨b, o + j, none⟩).getD undef
      have hrun := run_loadCells (P := P) C.w ⟨b, o, none⟩ n f (fun j hj => by
        rw [add_none]; obtain ⟨u, h1, _⟩ := hf j hj; simp [f, h1])
      refine ⟨b, o, .agg ((List.range n).map f).toArray, rfl, ?_, .agg (by simp [hl]) (fun k x hx => ?_)⟩
      · simp [loadVar, tagg_run hg, tsize_run hn, hrun]
      · have hk : k < n := by have := get_lt hx; omega
        obtain ⟨u, h1, h2⟩ := hf k hk
        have : (((List.range n).map f).toArray.getD k undef) = u := by simp [hk, f, h1]
        rw [this]; exact h2 x hx
    · cases h
  · rename_i hg
    rw [Option.bind_eq_some_iff] at h
    obtain ⟨cs, hcs, h⟩ := h
    obtain ⟨b, o, rfl, hl, hc⟩ := rdCells_ok hp hv hcs
    obtain ⟨u, h1, h2⟩ := hc 0 x h
    exact ⟨b, o, u, rfl, by simp [loadVar, tagg_run hg, show (C.w.cell? ⟨b, o, none⟩) = some u from h1], h2⟩
  · cases h

/-- The results of a function, as data. -/
def resVar (P : Program) (F : Frm) (H : Heap) : ResultVar → Option AV
  | .tmp t => some (ev F (.tmp t))
  | .cell a t => rdVar P t H (ev F (.tmp a))

def resList (P : Program) (F : Frm) (H : Heap) : List ResultVar → Option (List AV)
  | [] => some []
  | r :: rs => match resVar P F H r, resList P F H rs with
    | some x, some xs => some (x :: xs)
    | _, _ => none

def resOf (P : Program) (fn : Func) (F : Frm) (H : Heap) : Option AV :=
  match resList P F H fn.results.toList with
  | some [x] => some x
  | some xs => some (.tup xs)
  | none => none

def retQ (P : Program) (fn : Func) (R : AV → Heap → Prop) : Exit → Frm → Heap → Prop
  | .normal, F, H | .ret, F, H => ∃ r, resOf P fn F H = some r ∧ R r H
  | _, _, _ => False

def rOne (tmps : Array Value) : ResultVar → Sem Value
  | .tmp t => pure (tmps.getD t undef)
  | .cell a t => do loadVar t (← asAddr (tmps.getD a undef))

theorem results_eq (fn : Func) (tmps : Array Value) :
    results fn tmps = (do let vs ← fn.results.mapM (rOne tmps); pure (if h : vs.size = 1 then vs[0] else .tuple vs)) := by
  rfl

theorem resList_ok {P : Program} {K : Kon} {C : Ctx} (hp : Hp K C) {F : Frm} {tmps : Array Value} (hf : FrOk C F tmps) :
    ∀ (rs : List ResultVar) (xs : List AV), resList P F C.H rs = some xs →
    ∃ vs : List Value, (rs.mapM (rOne tmps)).run P C.w = .ok vs C.w ∧
      vs.length = xs.length ∧ ∀ k x, xs[k]? = some x → Vl C x (vs.getD k undef)
  | [], xs, h => by simp [resList] at h; subst h; exact ⟨[], by simp, rfl, fun k x hx => by simp at hx⟩
  | r :: rs, xs, h => by
    simp only [resList] at h
    split at h <;> simp at h
    rename_i x xs' hr hrs
    subst h
    obtain ⟨vs, h1, h2, h3⟩ := resList_ok hp hf rs xs' hrs
    have hone : ∃ u, (rOne tmps r).run P C.w = .ok u C.w ∧ Vl C x u := by
      cases r with
      | tmp t =>
        simp only [resVar] at hr; cases hr
        exact ⟨_, rfl, ev_ok (a := { tmps := tmps, defers := [] }) hf (.tmp t)⟩
      | cell a t =>
        simp only [resVar] at hr
        obtain ⟨b, o, u, h1, h2, h3⟩ := rdVar_ok (P := P) hp (ev_ok (a := { tmps := tmps, defers := [] }) hf (.tmp a)) hr
        have h1' : tmps.getD a undef = .pointer (some ⟨b, o, none⟩) := h1
        refine ⟨u, ?_, h3⟩
        simp only [rOne, h1', Sem.run_bind, asAddr, Sem.run_pure, Result.andThen_ok]
        exact h2
    obtain ⟨u, hu1, hu2⟩ := hone
    refine ⟨u :: vs, ?_, by simp [h2], fun k y hy => ?_⟩
    · simp only [List.mapM_cons, Sem.run_bind, hu1, Result.andThen_ok, h1, Sem.run_pure]
    · cases k with
      | zero => simp at hy; subst hy; simpa using hu2
      | succ k => simp at hy; simpa using h3 k y hy

theorem resOf_ok {P : Program} {fn : Func} {K : Kon} {C : Ctx} (hp : Hp K C) {F : Frm} {tmps : Array Value} (hf : FrOk C F tmps) {r : AV} (h : resOf P fn F C.H = some r) :
    ∃ v, (results fn tmps).run P C.w = .ok v C.w ∧ Vl C r v := by
  unfold resOf at h
  have key : ∀ xs, resList P F C.H fn.results.toList = some xs → ∃ vs : List Value, (results fn tmps).run P C.w = .ok (if h : vs.toArray.size = 1 then vs.toArray[0] else .tuple vs.toArray) C.w ∧
      vs.length = xs.length ∧ ∀ k x, xs[k]? = some x → Vl C x (vs.getD k undef) := by
    intro xs hxs
    obtain ⟨vs, h1, h2, h3⟩ := resList_ok (P := P) hp hf _ _ hxs
    refine ⟨vs, ?_, h2, h3⟩
    rw [results_eq, Sem.run_bind]
    have : (fn.results.mapM (rOne tmps)).run P C.w = .ok vs.toArray C.w := by
      rw [Array.mapM_eq_mapM_toList, Sem.run_map, h1]
      rfl
    rw [this]
    rfl
  split at h
  · rename_i x hx
    cases h
    obtain ⟨vs, h1, h2, h3⟩ := key _ hx
    match vs, h2 with
    | [v], _ => exact ⟨v, by simpa using h1, by simpa using h3 0 r rfl⟩
  · rename_i xs hne hx
    cases h
    obtain ⟨vs, h1, h2, h3⟩ := key _ hx
    have hl : vs.length ≠ 1 := fun hl => by
      rw [h2] at hl
      match xs, hl with
      | [x], _ => exact hne x rfl
    refine ⟨.tuple vs.toArray, by simpa [hl] using h1, .tup (by simp [h2]) (fun k x hx => by simpa [List.getD] using h3 k x hx)⟩
  · cases h

end Go.Ab
namespace Go.Ab
open Go

theorem Hp.mark {K : Kon} {C : Ctx} (h : Hp K C) {D : Nat} (hD : C.w.heap[D]? = some (.deferred (some []))) (hb : ¬ C.bad D) (hs : K.C0.w.heap.size ≤ D) :
    ExtW C { C with w := C.w.putObj D (.deferred none) } ∧ Hp K { C with w := C.w.putObj D (.deferred none) } := by
  have e : ExtW C { C with w := C.w.putObj D (.deferred none) } :=
    { len := Nat.le_refl _
      lnt := fun _ h => h
      pers := fun b h1 _ h3 => ⟨World.putObj_heap_other (fun hh => h3 _ (hh ▸ hD)), h1⟩
      var := fun _ cs h => ⟨⟨cs, h⟩, rfl⟩, mapo := fun _ cs h => ⟨⟨cs, h⟩, rfl⟩, loopo := fun _ cs h => ⟨⟨cs, h⟩, rfl⟩
      vec := fun _ _ v' es' _ h => ⟨v', es', h, Nat.le_refl _, fun _ => ⟨Nat.le_refl _, rfl, rfl⟩⟩ }
  refine ⟨e, ?_⟩
  exact
    { X := h.X, xown := h.xown, xlt := h.xlt, L := h.L, lown := h.lown, llt := h.llt, inj := h.inj, lt := fun i b hi hb => by simpa using h.lt i b hi hb
      obj := fun i o ho => (h.obj i o ho).monoW e rfl rfl (fun b hb' => World.putObj_heap_other (fun hh => hb (.inr ⟨i, get_lt ho, hh ▸ hb'⟩)))
      ext := { len := h.ext.len, lnt := h.ext.lnt, pers := fun b h1 h2 => ⟨(World.putObj_heap_other (by omega)).trans (h.ext.pers b h1 h2).1, (h.ext.pers b h1 h2).2⟩, var := h.ext.var, mapo := h.ext.mapo, loopo := h.ext.loopo, vec := h.ext.vec }
      os := h.os, tape := h.tape, output := h.output, size := by simpa using h.size
      same := fun b h1 h2 => (World.putObj_heap_other (by omega)).trans (h.same b h1 h2), ownn := h.ownn, glob := fun g cs hg => (h.glob g cs hg).monoW e }

def ArgsOk (C : Ctx) (args : List AV) (vs : Array Value) : Prop := vs.size = args.length ∧ ∀ k x, args[k]? = some x → Vl C x (vs.getD k undef)

/-- Called with these data in this memory the function ends in R. -/
def ACall (P : Program) (G : List (Nat × List Value)) (f : FuncId) (args : List AV) (H : Heap) (R : AV → Heap → Prop) : Prop :=
  ∀ (C : Ctx) (vs : Array Value), C.H = H → Hp ⟨C, G, none⟩ C → ArgsOk C args vs →
    CallsIn Fence.wide 0 P f vs C.w (fun e w' => ∃ r v C', e = .returned v ∧ C'.w = w' ∧ Hp ⟨C, G, none⟩ C' ∧ Vl C' r v ∧ R r C'.H)

theorem ACall.mono {P : Program} {G : List (Nat × List Value)} {f : FuncId} {args : List AV} {H : Heap} {R R' : AV → Heap → Prop} (h : ACall P G f args H R)
    (hr : ∀ r H', R r H' → R' r H') : ACall P G f args H R' :=
  fun C vs h1 h2 h3 => (h C vs h1 h2 h3).mono fun e w' ⟨r, v, C', a, b, c, d, g⟩ => ⟨r, v, C', a, b, c, d, hr _ _ g⟩

def argsFrm : Nat → List AV → Frm
  | _, [] => []
  | n, x :: xs => (n, x) :: argsFrm (n + 1) xs

theorem argsFrm_lookup : ∀ (n : Nat) (xs : List AV) (k : Nat) (x : AV), (argsFrm n xs).lookup k = some x → n ≤ k ∧ xs[k - n]? = some x
  | _, [], k, x, h => by simp [argsFrm] at h
  | n, y :: ys, k, x, h => by
    simp only [argsFrm, List.lookup_cons] at h
    split at h
    · rename_i hk
      have : k = n := by simpa using hk
      subst this
      cases h
      exact ⟨Nat.le_refl _, by simp⟩
    · rename_i hk
      have hne : k ≠ n := by simpa using hk
      obtain ⟨h1, h2⟩ := argsFrm_lookup (n + 1) ys k x h
      refine ⟨by omega, ?_⟩
      rw [show k - n = (k - (n + 1)) + 1 by omega]
      simpa using h2

theorem leave_marks {K : Kon} {P : Program} {fn : Func} {tmps : Array Value} {F : Frm} {R : AV → Heap → Prop} {H : Heap} {r : AV} (hres : resOf P fn F H = some r) (hR : R r H) :
    ∀ (Ds : List Nat) (C : Ctx), C.H = H → Hp K C → FrOk C F tmps → Ds.Nodup →
      (∀ D ∈ Ds, C.w.heap[D]? = some (.deferred (some [])) ∧ ¬ C.bad D ∧ K.C0.w.heap.size ≤ D) →
      LeavesInM Fence.wide 0 P fn tmps (fun e w' => ∃ r v C', e = .returned v ∧ C'.w = w' ∧ Hp K C' ∧ Vl C' r v ∧ R r C'.H)
        (Ds.map (fun D => { target := .collected D, args := #[] })) .returning C.w
  | [], C, hH, hp, hf, _, _ => by
    subst hH
    obtain ⟨v, h1, h2⟩ := resOf_ok (P := P) hp hf hres
    exact ⟨v, h1, r, v, C, rfl, rfl, hp, h2, hR⟩
  | D :: Ds, C, hH, hp, hf, hn, hall => by
    obtain ⟨h1, h2, h3⟩ := hall D (by simp)
    obtain ⟨e, hp'⟩ := hp.mark h1 h2 h3
    have hn' := List.nodup_cons.1 hn
    refine ⟨by simp, .inl ⟨D, C.w.putObj D (.deferred none), rfl, run_takeDeferred h1, ?_⟩⟩
    exact leave_marks hres hR Ds { C with w := C.w.putObj D (.deferred none) } hH hp' (hf.monoW e) hn'.2 (fun D' hD' => by
      obtain ⟨g1, g2, g3⟩ := hall D' (by simp [hD'])
      exact ⟨(World.putObj_heap_other (fun (hh : D' = D) => hn'.1 (by rw [← hh]; exact hD'))).trans g1, g2, g3⟩)

theorem acall_of_body {P : Program} {G : List (Nat × List Value)} {f : FuncId} {fn : Func} {c : Code} {args : List AV} {H : Heap} {R : AV → Heap → Prop}
    (hf : P.funcs[f]? = some fn) (hb : fn.body = some c) (hn : args.length ≤ fn.ntmps)
    (h : AWp ⟨P, G, H.length, fn.ntmps, false⟩ c (retQ P fn R) (argsFrm 0 args) H) : ACall P G f args H R := by
  intro C vs hH hp hargs
  subst hH
  refine callsIn_of_wp_marks hf hb trivial ?_
  have hst : St ⟨C, G, none⟩ C fn.ntmps (argsFrm 0 args) { tmps := vs ++ Array.replicate (fn.ntmps - vs.size) undef, defers := [] } :=
    { hp := hp
      size := by have := hargs.1; simp; omega
      fr := fun k x hx => by
        obtain ⟨_, hk⟩ := argsFrm_lookup 0 args k x hx
        simp only [Nat.sub_zero] at hk
        have hl := get_lt hk
        have := hargs.2 k x hk
        have hs := hargs.1
        have e1 : (vs ++ Array.replicate (fn.ntmps - vs.size) undef).getD k undef = vs.getD k undef := by
          have h1 : k < vs.size := by omega
          simp [Array.getElem?_append_left h1]
        rw [e1]; exact this
      marks := ⟨[], rfl, List.nodup_nil, fun D hD => by cases hD⟩ }
  refine wpIn_mono (h ⟨C, G, none⟩ C _ rfl rfl rfl hst rfl) ?_
  rintro e a' w' ⟨F', C', rfl, g2, g3⟩
  obtain ⟨Ds, hds, hnd, hall⟩ := g2.marks
  have key : ∀ r, resOf P fn F' C'.H = some r → R r C'.H → LeavesInM Fence.wide 0 P fn a'.tmps (fun e w' => ∃ r v C', e = .returned v ∧ C'.w = w' ∧ Hp ⟨C, G, none⟩ C' ∧ Vl C' r v ∧ R r C'.H) a'.defers .returning C'.w := by
    intro r h1 h2
    rw [hds]
    exact leave_marks h1 h2 Ds C' rfl g2.hp g2.fr hnd hall
  cases e with
  | normal => obtain ⟨r, h1, h2⟩ := g3; exact key r h1 h2
  | ret => obtain ⟨r, h1, h2⟩ := g3; exact key r h1 h2
  | exit id => exact g3.elim
  | goto l => exact g3.elim
  | panic ch => exact g3.elim
  | outgrown => exact g3.elim

end Go.Ab
namespace Go.Ab
open Go

/-- 'x' may be told as 'y': weaker, or with own memory laid open as data; what 'keep' names stays a number. -/
inductive RsG (m : Bool) (H : Heap) (keep : Nat → Prop) : AV → AV → Prop
  | any (x : AV) : RsG m H keep x .any
  | raw (v : Value) : RsG m H keep (.raw v) (.raw v)
  | nil {z : Nat} {full : Fl} (hz : 0 < z) : RsG m H keep (.raw (.slice none 0 0)) (.sl z full [])
  | ptrK {i off : Nat} (h : keep i) : RsG m H keep (.ptr i off) (.ptr i off)
  | pelK {i ver j off : Nat} (h : keep i) : RsG m H keep (.pel i ver j off) (.pel i ver j off)
  | sloK {i ver off len : Nat} (h : keep i) : RsG m H keep (.slo i ver off len) (.slo i ver off len)
  | mpK {i : Nat} (h : keep i) : RsG m H keep (.mp i) (.mp i)
  | ylK {i : Nat} (h : keep i) : RsG m H keep (.yl i) (.yl i)
  | slo {i ver off len z : Nat} {ln : Bool} {es es' : List AV} (hk : ¬ keep i) (h : H[i]? = some (.vec z ver es)) (hl : off + len ≤ es.length) (hl' : es'.length = len)
      (hc : ∀ (k : Nat) (x x' : AV), (es.drop off)[k]? = some x → es'[k]? = some x' → x'.cells.length = x.cells.length)
      (hx : ∀ (k : Nat) (x x' : AV), (es.drop off)[k]? = some x → es'[k]? = some x' → RsG m H keep x x') (hln : m = true → ln = true := by simp) : RsG m H keep (.slo i ver off len) (.sl z ⟨false, ln⟩ es')
  | ptr {i off : Nat} {cs cs' : List AV} (hk : ¬ keep i) (h : H[i]? = some (.var cs)) (hl : off + cs'.length ≤ cs.length)
      (hx : ∀ (k : Nat) (x x' : AV), (cs.drop off)[k]? = some x → cs'[k]? = some x' → RsG m H keep x x') : RsG m H keep (.ptr i off) (.rp cs')
  | mp {i : Nat} {es es' : List (AV × AV)} (hk : ¬ keep i) (h : H[i]? = some (.mapo es)) (hl : es'.length = es.length)
      (hx : ∀ (k : Nat) (x x' : AV × AV), es[k]? = some x → es'[k]? = some x' → RsG m H keep x.1 x'.1) (hy : ∀ (k : Nat) (x x' : AV × AV), es[k]? = some x → es'[k]? = some x' → RsG m H keep x.2 x'.2) (hm : m = false := by rfl) : RsG m H keep (.mp i) (.pm es')
  | rp {cs cs' : List AV} (hl : cs'.length = cs.length) (hx : ∀ (k : Nat) (x x' : AV), cs[k]? = some x → cs'[k]? = some x' → RsG m H keep x x') : RsG m H keep (.rp cs) (.rp cs')
  | sl {z : Nat} {full full' : Fl} {es es' : List AV} (hf : full'.le full) (hl : es'.length = es.length)
      (hc : ∀ (k : Nat) (x x' : AV), es[k]? = some x → es'[k]? = some x' → x'.cells.length = x.cells.length)
      (hx : ∀ (k : Nat) (x x' : AV), es[k]? = some x → es'[k]? = some x' → RsG m H keep x x') : RsG m H keep (.sl z full es) (.sl z full' es')
  | slb {z n : Nat} {es es' : List AV} (hl : es'.length = es.length)
      (hc : ∀ (k : Nat) (x x' : AV), es[k]? = some x → es'[k]? = some x' → x'.cells.length = x.cells.length)
      (hx : ∀ (k : Nat) (x x' : AV), es[k]? = some x → es'[k]? = some x' → RsG m H keep x x') : RsG m H keep (.slb z n es) (.slb z n es')
  | slbv {z n : Nat} {es es' : List AV} (hl : es'.length = n)
      (hc : ∀ (k : Nat) (x x' : AV), es[k]? = some x → es'[k]? = some x' → x'.cells.length = x.cells.length)
      (hx : ∀ (k : Nat) (x x' : AV), es[k]? = some x → es'[k]? = some x' → RsG m H keep x x') : RsG m H keep (.slb z n es) (.sl z fL es')
  | slob {i ver n z : Nat} {es es' : List AV} (hk : ¬ keep i) (h : H[i]? = some (.vec z ver es)) (hle : n ≤ es.length) (hl' : es'.length = es.length)
      (hc : ∀ (k : Nat) (x x' : AV), es[k]? = some x → es'[k]? = some x' → x'.cells.length = x.cells.length)
      (hx : ∀ (k : Nat) (x x' : AV), es[k]? = some x → es'[k]? = some x' → RsG m H keep x x') : RsG m H keep (.slo i ver 0 n) (.slb z n es')
  | pm {es es' : List (AV × AV)} (hl : es'.length = es.length) (hx : ∀ (k : Nat) (x x' : AV × AV), es[k]? = some x → es'[k]? = some x' → RsG m H keep x.1 x'.1)
      (hy : ∀ (k : Nat) (x x' : AV × AV), es[k]? = some x → es'[k]? = some x' → RsG m H keep x.2 x'.2) : RsG m H keep (.pm es) (.pm es')
  | fn {f : FuncId} {a a' b b' : List AV} (h1 : a'.length = a.length) (h2 : b'.length = b.length) (hx : ∀ (k : Nat) (x x' : AV), a[k]? = some x → a'[k]? = some x' → RsG m H keep x x')
      (hy : ∀ (k : Nat) (x x' : AV), b[k]? = some x → b'[k]? = some x' → RsG m H keep x x') : RsG m H keep (.fn f a b) (.fn f a' b')
  | agg {cs cs' : List AV} (hl : cs'.length = cs.length) (hx : ∀ (k : Nat) (x x' : AV), cs[k]? = some x → cs'[k]? = some x' → RsG m H keep x x') : RsG m H keep (.agg cs) (.agg cs')
  | tup {cs cs' : List AV} (hl : cs'.length = cs.length) (hx : ∀ (k : Nat) (x x' : AV), cs[k]? = some x → cs'[k]? = some x' → RsG m H keep x x') : RsG m H keep (.tup cs) (.tup cs')

/-- One that is not lent. -/
abbrev Rs := RsG false

/-- One cell after the other. -/
theorem Rs.cells {H : Heap} {keep : Nat → Prop} {x x' : AV} (h : Rs H keep x x') (hl : x'.cells.length = x.cells.length) :
    ∀ (k : Nat) (y y' : AV), x.cells[k]? = some y → x'.cells[k]? = some y' → Rs H keep y y' := by
  intro k y y' hy hy'
  cases h with
  | agg h1 h2 => exact h2 k y y' hy hy'
  | any x =>
    simp only [AV.cells] at hy' hl
    cases k with
    | zero => simp at hy'; subst hy'; exact .any _
    | succ k => simp at hy'
  | _ =>
    simp only [AV.cells] at hy hy'
    cases k with
    | zero => simp at hy hy'; subst hy; subst hy'; (first | exact .raw _ | (constructor <;> assumption))
    | succ k => simp at hy'

theorem elem_vl {m : Bool} {H : Heap} {keep : Nat → Prop} {C C' : Ctx} {x x' : AV} (h : RsG m H keep x x') (hl : x'.cells.length = x.cells.length) (ih : ∀ v, Vl C x v → Vl C' x' v)
    (g : Nat → Value) (hg : ∀ k y, x.cells[k]? = some y → Vl C y (g k)) : ∀ k y', x'.cells[k]? = some y' → Vl C' y' (g k) := by
  have other : x.cells = [x] → x'.cells = [x'] → ∀ k y', x'.cells[k]? = some y' → Vl C' y' (g k) := by
    intro h1 h2 k y' hy'
    rw [h2] at hy'
    cases k with
    | zero => simp at hy'; subst hy'; exact ih _ (hg 0 x (by rw [h1]; rfl))
    | succ k => simp at hy'
  cases h with
  | agg h1 h2 =>
    rename_i cs cs'
    intro k y' hy'
    have hv : Vl C (.agg cs) (.agg ((List.range cs.length).map g).toArray) := .agg (by simp) (fun k y hy => by
      have hk := get_lt hy
      have : ((List.range cs.length).map g).toArray.getD k undef = g k := by simp [hk]
      rw [this]; exact hg k y hy)
    have := ih _ hv
    cases this with
    | agg h3 h4 =>
      have h5 := h4 k y' hy'
      have hk : k < cs.length := by have := get_lt hy'; simp only [AV.cells] at this; omega
      have : ((List.range cs.length).map g).toArray.getD k undef = g k := by simp [hk]
      rw [this] at h5; exact h5
  | any x =>
    intro k y' hy'
    simp only [AV.cells] at hy'
    cases k with
    | zero => simp at hy'; subst hy'; exact .any _
    | succ k => simp at hy'
  | _ => exact other rfl rfl

theorem flat_vl {m : Bool} {H : Heap} {keep : Nat → Prop} {C C' : Ctx} : ∀ (es es' : List AV), (∀ (k : Nat) (x x' : AV), es[k]? = some x → es'[k]? = some x' → x'.cells.length = x.cells.length) →
    (∀ (k : Nat) (x x' : AV), es[k]? = some x → es'[k]? = some x' → RsG m H keep x x') → (∀ (k : Nat) (x x' : AV), es[k]? = some x → es'[k]? = some x' → ∀ v, Vl C x v → Vl C' x' v) → es'.length ≤ es.length →
    ∀ (g : Nat → Value), (∀ k y, (flat es)[k]? = some y → Vl C y (g k)) → ∀ (k : Nat) (y' : AV), (flat es')[k]? = some y' → Vl C' y' (g k)
  | es, [], _, _, _, _, g, hg, k, y', h => by simp [flat] at h
  | [], x' :: es', _, _, _, hl, g, hg, k, y', h => by simp at hl
  | x :: es, x' :: es', hc, hx, hi, hl, g, hg, k, y', h => by
    have hc0 := hc 0 x x' rfl rfl
    simp only [flat, List.flatMap_cons] at h
    rcases Nat.lt_or_ge k x'.cells.length with hk | hk
    · rw [List.getElem?_append_left hk] at h
      refine elem_vl (hx 0 x x' rfl rfl) hc0 (hi 0 x x' rfl rfl) g (fun k y hy => hg k y ?_) k y' h
      simp only [flat, List.flatMap_cons]
      rw [List.getElem?_append_left (get_lt hy)]; exact hy
    · rw [List.getElem?_append_right hk] at h
      have := flat_vl es es' (fun k a b ha hb => hc (k + 1) a b ha hb) (fun k a b ha hb => hx (k + 1) a b ha hb) (fun k a b ha hb => hi (k + 1) a b ha hb) (by simpa using hl)
        (fun k => g (x.cells.length + k)) (fun k y hy => hg _ y (by
          simp only [flat, List.flatMap_cons]
          rw [List.getElem?_append_right (by omega), Nat.add_sub_cancel_left]; exact hy)) (k - x'.cells.length) y' h
      rw [show x.cells.length + (k - x'.cells.length) = k by omega] at this
      exact this

theorem flat_drop {z : Nat} : ∀ {es : List AV}, (∀ e ∈ es, e.cells.length = z) → ∀ n, flat (es.drop n) = (flat es).drop (n * z)
  | [], _, n => by simp [flat]
  | x :: es, hz, 0 => by simp
  | x :: es, hz, n + 1 => by
    have := flat_drop (es := es) (fun y hy => hz y (by simp [hy])) n
    have hx := hz x (by simp)
    simp only [List.drop_succ_cons] at this ⊢
    rw [this]
    simp only [flat, List.flatMap_cons]
    rw [Nat.succ_mul, List.drop_append, hx, show n * z + z - z = n * z by omega, List.drop_of_length_le (l := x.cells) (by omega), List.nil_append]

/-- The state told more weakly. -/
structure WeakG (m : Bool) (keep : Nat → Prop) (C C' : Ctx) : Prop where
  w : C'.w = C.w
  lnt : ∀ b, C'.L b → C.L b ∨ (m = true ∧ C.own b)
  bad : ∀ b, ¬ C.bad b → ¬ C'.bad b
  free : ∀ i b, i < C.H.length → ¬ keep i → C.β i = some b → ¬ C'.bad b
  lt : ∀ i, keep i → i < C.H.length → i < C'.H.length
  var : ∀ i cs, keep i → C.H[i]? = some (.var cs) → (∃ cs', C'.H[i]? = some (.var cs')) ∧ C'.β i = C.β i
  mapo : ∀ i es, keep i → C.H[i]? = some (.mapo es) → (∃ es', C'.H[i]? = some (.mapo es')) ∧ C'.β i = C.β i
  loopo : ∀ i l, keep i → C.H[i]? = some (.loopo l) → (∃ l', C'.H[i]? = some (.loopo l')) ∧ C'.β i = C.β i
  vec : ∀ i z v es', keep i → C'.H[i]? = some (.vec z v es') → ∃ es, C.H[i]? = some (.vec z v es) ∧ es.length = es'.length ∧ C'.β i = C.β i ∧ C'.κ i = C.κ i

abbrev Weak := WeakG false

theorem RsG.vl {m : Bool} {keep : Nat → Prop} {C C' : Ctx} (hw : WeakG m keep C C') {K : Kon} (hp : Hp K C) {x x' : AV} (h : RsG m C.H keep x x') : ∀ v, Vl C x v → Vl C' x' v := by
  have hLk : ∀ b, ¬ C.bad b → ¬ C.L b → ¬ C'.L b := fun b h1 h2 h3 => by
    rcases hw.lnt b h3 with h4 | ⟨_, h4⟩
    · exact h2 h4
    · exact h1 (.inr h4)
  have hLo : m = false → ∀ b, C.own b → ¬ C'.L b := fun hm b h1 h3 => by
    rcases hw.lnt b h3 with h4 | ⟨h4, _⟩
    · exact hp.lown b h4 h1
    · rw [hm] at h4; cases h4
  induction h with
  | any x => exact fun v _ => .any v
  | raw v => intro u hu; cases hu; exact .raw v
  | nil hz => intro u hu; cases hu; exact .sl (es := []) (fun _ => undef) hz (Nat.le_refl _) (fun _ => rfl) (fun _ => rfl) (fun e he => by cases he) (fun x hx => by cases hx) (fun _ x hx => by cases hx) (fun k x hx => by simp [flat] at hx)
  | ptrK h =>
    intro u hu
    cases hu with
    | ptr hh hb => obtain ⟨cs, hh⟩ := hh; have := hw.var _ _ h hh; exact .ptr this.1 (this.2.trans hb)
  | pelK h =>
    intro u hu
    cases hu with
    | pel hi hv hh =>
      refine .pel (hw.lt _ h hi) (fun z v0 es hh' => ?_) (fun z es hh' => ?_)
      · obtain ⟨es0, h1, _⟩ := hw.vec _ _ _ _ h hh'; exact hv _ _ _ h1
      · obtain ⟨es0, h1, h2, h3, _⟩ := hw.vec _ _ _ _ h hh'
        obtain ⟨hj, b, hb, hv⟩ := hh _ _ h1
        exact ⟨by omega, b, h3.trans hb, hv⟩
  | sloK h =>
    intro u hu
    cases hu with
    | slo hi hv hh =>
      refine .slo (hw.lt _ h hi) (fun z v0 es hh' => ?_) (fun z es hh' => ?_)
      · obtain ⟨es0, h1, _⟩ := hw.vec _ _ _ _ h hh'; exact hv _ _ _ h1
      · obtain ⟨es0, h1, h2, h3, h4⟩ := hw.vec _ _ _ _ h hh'
        obtain ⟨hl, hv⟩ := hh _ _ h1
        exact ⟨by omega, by rw [h3, h4]; exact hv⟩
  | mpK h =>
    intro u hu
    cases hu with
    | mp hh hb => obtain ⟨cs, hh⟩ := hh; have := hw.mapo _ _ h hh; exact .mp this.1 (this.2.trans hb)
  | ylK h =>
    intro u hu
    cases hu with
    | yl hh hb => obtain ⟨cs, hh⟩ := hh; have := hw.loopo _ _ h hh; exact .yl this.1 (this.2.trans hb)
  | slo hk hes hl hl' hc hx hln ih =>
    rename_i i ver off len z ln es es'
    intro u hu
    cases hu with
    | slo hi hv hh =>
      obtain ⟨_, rfl⟩ := hh _ _ hes
      obtain ⟨h0, h1, h2, h3⟩ := hp.obj i _ hes
      subst hl'
      have hdl : (es.drop off).length = es.length - off := by simp
      have hcl : ∀ e ∈ es', e.cells.length = z := fun e he => by
        obtain ⟨k, hk', rfl⟩ := List.mem_iff_getElem.1 he
        rw [hc k ((es.drop off)[k]'(by omega)) _ (List.getElem?_eq_getElem (by omega)) (List.getElem?_eq_getElem hk')]
        exact h1 _ (List.mem_of_mem_drop (List.getElem_mem _))
      rcases h3 with ⟨hβ, hκ⟩ | ⟨b, c, t, hβ, hbk, hcs, hcv⟩
      · have : es' = [] := List.length_eq_zero_iff.1 (by omega)
        subst this
        rw [hβ, hκ]
        exact .sl (fun _ => undef) h0 (by simp) (by simp) (fun _ => by simp) hcl (fun x hx => by simp at hx) (fun _ x hx => by simp at hx) (fun k x hx => by simp [flat] at hx)
      · rw [hβ]
        have hκz : es.length * z ≤ C.κ i * z := Nat.mul_le_mul_right z h2
        have hoz : off * z + es'.length * z ≤ es.length * z := by rw [← Nat.add_mul]; exact Nat.mul_le_mul_right z hl
        refine .sl (fun k => c.getD (off * z + k) undef) h0 (by omega) (by simp) (by simp) hcl (fun x hx hne => ?_) (fun h0 x hx hne => ?_) ?_
        · simp at hx
          subst hx
          refine ⟨rfl, hw.free i b hi hk hβ, fun k hk' => ?_⟩
          rw [hw.w]
          exact cell_cells hbk (o := off * z + k) (by omega)
        · simp at hx
          subst hx
          refine hLo ?_ b ⟨i, hi, hβ⟩
          cases m with
          | false => rfl
          | true => have := hln rfl; rw [this] at h0; cases h0
        · refine flat_vl (es.drop off) es' hc hx ih (by omega) (fun k => c.getD (off * z + k) undef) (fun k y hy => ?_)
          rw [flat_drop h1, List.getElem?_drop] at hy
          exact hcv _ y hy
  | ptr hk hcs hl hx ih =>
    rename_i i off cs cs'
    intro u hu
    cases hu with
    | ptr hh hb =>
      obtain ⟨b, c, t, hβ, hbk, hsz, hcv⟩ := hp.obj i _ hcs
      rw [hb] at hβ; cases hβ
      refine .rp (fun k => c.getD (off + k) undef) (hw.free i _ (get_lt hcs) hk hb) ⟨_, _, _, by rw [hw.w]; exact hbk⟩ (fun k hk' => ?_) (fun k x' hx' => ?_)
      · rw [hw.w]; exact cell_cells hbk (o := off + k) (by omega)
      · have hk' : k < cs'.length := get_lt hx'
        have hd : (cs.drop off)[k]? = some (cs[off + k]'(by omega)) := by rw [List.getElem?_drop, List.getElem?_eq_getElem]
        exact ih k _ x' hd hx' _ (hcv _ _ (List.getElem?_eq_getElem (by omega)))
  | mp hk hes hl hx hy hm ihx ihy =>
    rename_i i es es'
    intro u hu
    cases hu with
    | mp hh hb =>
      obtain ⟨b', ents, clock, h1, h2, h3, h4, _⟩ := hp.obj i _ hes
      rw [hb] at h1; cases h1
      refine .pm (hw.free i _ (get_lt hes) hk hb) (hLo hm _ ⟨i, get_lt hes, hb⟩) (by rw [hw.w]; exact h2) (by omega) (fun k e he => ?_) (fun k e he => ?_)
      · have hk' : k < es.length := by have := get_lt he; omega
        have := h4 k _ (List.getElem?_eq_getElem hk')
        exact ihx k _ e (List.getElem?_eq_getElem hk') he _ this.1
      · have hk' : k < es.length := by have := get_lt he; omega
        have := h4 k _ (List.getElem?_eq_getElem hk')
        exact ihy k _ e (List.getElem?_eq_getElem hk') he _ this.2
  | rp hl hx ih =>
    rename_i cs cs'
    intro u hu
    cases hu with
    | rp g hb hs hc hx' =>
      refine .rp g (hw.bad _ hb) (by rw [hw.w]; exact hs) (fun k hk => by rw [hw.w]; exact hc k (by omega)) (fun k x' hx'' => ?_)
      have hk' : k < cs.length := by have := get_lt hx''; omega
      exact ih k _ x' (List.getElem?_eq_getElem hk') hx'' _ (hx' k _ (List.getElem?_eq_getElem hk'))
  | sl hf hl hc hx ih =>
    rename_i z full full' es es'
    intro u hu
    cases hu with
    | sl g hz hcap hfull hn hs ha hL hx' =>
      rw [← hl]
      refine .sl g hz (by omega) (fun h => by rw [hl]; exact hfull (hf.1 h)) hn (fun e he => ?_) (fun x hx hne => ?_) (fun h0 x hx hne => ?_) (flat_vl es es' hc hx ih (by omega) g hx')
      · obtain ⟨k, hk', rfl⟩ := List.mem_iff_getElem.1 he
        rw [hc k (es[k]'(by omega)) _ (List.getElem?_eq_getElem (by omega)) (List.getElem?_eq_getElem hk')]
        exact hs _ (List.getElem_mem _)
      · obtain ⟨h1, h2, h3⟩ := ha x hx (fun h => hne (List.length_eq_zero_iff.1 (by rw [hl, h]; rfl)))
        exact ⟨h1, hw.bad _ h2, fun k hk => by rw [hw.w]; exact h3 k (by rw [← hl]; exact hk)⟩
      · have hne' : es ≠ [] := fun h => hne (List.length_eq_zero_iff.1 (by rw [hl, h]; rfl))
        exact hLk _ (ha x hx hne').2.1 (hL (hf.2 h0) x hx hne')
  | slb hl hc hx ih =>
    rename_i z n es es'
    intro u hu
    cases hu with
    | slb g hz hle hcap hn hs ha hx' =>
      refine .slb g hz (by omega) (by omega) hn (fun e he => ?_) (fun x hx hne => ?_) (flat_vl es es' hc hx ih (by omega) g hx')
      · obtain ⟨k, hk', rfl⟩ := List.mem_iff_getElem.1 he
        rw [hc k (es[k]'(by omega)) _ (List.getElem?_eq_getElem (by omega)) (List.getElem?_eq_getElem hk')]
        exact hs _ (List.getElem_mem _)
      · obtain ⟨h1, h2, h3⟩ := ha x hx (fun h => hne (List.length_eq_zero_iff.1 (by rw [hl, h]; rfl)))
        exact ⟨h1, hw.bad _ h2, fun k hk => by rw [hw.w]; exact h3 k (by rw [← hl]; exact hk)⟩
  | slbv hl hc hx ih =>
    rename_i z n es es'
    intro u hu
    cases hu with
    | slb g hz hle hcap hn hs ha hx' =>
      rw [← hl]
      refine .sl g hz (by omega) (fun h => by cases h) hn (fun e he => ?_) (fun x hx hne => ?_) (fun h => by cases h) (flat_vl es es' hc hx ih (by omega) g hx')
      · obtain ⟨k, hk', rfl⟩ := List.mem_iff_getElem.1 he
        rw [hc k (es[k]'(by omega)) _ (List.getElem?_eq_getElem (by omega)) (List.getElem?_eq_getElem hk')]
        exact hs _ (List.getElem_mem _)
      · obtain ⟨h1, h2, h3⟩ := ha x hx (fun h => hne (List.length_eq_zero_iff.1 (by rw [h] at hle; simp at hle; omega)))
        exact ⟨h1, hw.bad _ h2, fun k hk => by rw [hw.w]; exact h3 k (Nat.lt_of_lt_of_le hk (Nat.mul_le_mul_right z (by omega)))⟩
  | slob hk hes hle hl' hc hx ih =>
    rename_i i ver n z es es'
    intro u hu
    cases hu with
    | slo hi hv hh =>
      obtain ⟨_, rfl⟩ := hh _ _ hes
      obtain ⟨h0, h1, h2, h3⟩ := hp.obj i _ hes
      have hcl : ∀ e ∈ es', e.cells.length = z := fun e he => by
        obtain ⟨k, hk', rfl⟩ := List.mem_iff_getElem.1 he
        rw [hc k (es[k]'(by omega)) _ (List.getElem?_eq_getElem (by omega)) (List.getElem?_eq_getElem hk')]
        exact h1 _ (List.getElem_mem _)
      simp only [Nat.zero_mul, Nat.sub_zero]
      rcases h3 with ⟨hβ, hκ⟩ | ⟨b, c, t, hβ, hbk, hcs, hcv⟩
      · have : es' = [] := List.length_eq_zero_iff.1 (by omega)
        subst this
        rw [hβ, hκ]
        exact .slb (fun _ => undef) h0 (by simp; omega) (by simp) (fun _ => rfl) hcl (fun x hx => by simp at hx) (fun k x hx => by simp [flat] at hx)
      · rw [hβ]
        have hκz : es.length * z ≤ C.κ i * z := Nat.mul_le_mul_right z h2
        refine .slb (fun k => c.getD k undef) h0 (by omega) (by omega) (by simp) hcl (fun x hx hne => ?_) (flat_vl es es' hc hx ih (by omega) (fun k => c.getD k undef) hcv)
        simp at hx
        subst hx
        refine ⟨rfl, hw.free i b hi hk hβ, fun k hk' => ?_⟩
        rw [hw.w]
        exact cell_cells hbk (o := 0 + k) (by rw [hl'] at hk'; omega) |>.trans (by simp)
  | pm hl hx hy ihx ihy =>
    rename_i es es'
    intro u hu
    cases hu with
    | pm hb hL hm hs hk hv =>
      refine .pm (hw.bad _ hb) (hLk _ hb hL) (by rw [hw.w]; exact hm) (by omega) (fun k e he => ?_) (fun k e he => ?_)
      · have hk' : k < es.length := by have := get_lt he; omega
        exact ihx k _ e (List.getElem?_eq_getElem hk') he _ (hk k _ (List.getElem?_eq_getElem hk'))
      · have hk' : k < es.length := by have := get_lt he; omega
        exact ihy k _ e (List.getElem?_eq_getElem hk') he _ (hv k _ (List.getElem?_eq_getElem hk'))
  | fn h1 h2 hx hy ihx ihy =>
    rename_i f a a' b b'
    intro u hu
    cases hu with
    | fn g1 g2 hf hc =>
      refine .fn (by omega) (by omega) (fun k x' hx'' => ?_) (fun k x' hx'' => ?_)
      · have hk' : k < a.length := by have := get_lt hx''; omega
        exact ihx k _ x' (List.getElem?_eq_getElem hk') hx'' _ (hf k _ (List.getElem?_eq_getElem hk'))
      · have hk' : k < b.length := by have := get_lt hx''; omega
        exact ihy k _ x' (List.getElem?_eq_getElem hk') hx'' _ (hc k _ (List.getElem?_eq_getElem hk'))
  | agg hl hx ih =>
    rename_i cs cs'
    intro u hu
    cases hu with
    | agg g1 hx' =>
      refine .agg (by omega) (fun k x' hx'' => ?_)
      have hk' : k < cs.length := by have := get_lt hx''; omega
      exact ih k _ x' (List.getElem?_eq_getElem hk') hx'' _ (hx' k _ (List.getElem?_eq_getElem hk'))
  | tup hl hx ih =>
    rename_i cs cs'
    intro u hu
    cases hu with
    | tup g1 hx' =>
      refine .tup (by omega) (fun k x' hx'' => ?_)
      have hk' : k < cs.length := by have := get_lt hx''; omega
      exact ih k _ x' (List.getElem?_eq_getElem hk') hx'' _ (hx' k _ (List.getElem?_eq_getElem hk'))

end Go.Ab
namespace Go.Ab
open Go

inductive ORs (H : Heap) (keep : Nat → Prop) : AObj → AObj → Prop
  | var {cs cs' : List AV} (hl : cs'.length = cs.length) (hx : ∀ (k : Nat) (x x' : AV), cs[k]? = some x → cs'[k]? = some x' → Rs H keep x x') : ORs H keep (.var cs) (.var cs')
  | vec {z ver : Nat} {es es' : List AV} (hl : es'.length = es.length)
      (hc : ∀ (k : Nat) (x x' : AV), es[k]? = some x → es'[k]? = some x' → x'.cells.length = x.cells.length)
      (hx : ∀ (k : Nat) (x x' : AV), es[k]? = some x → es'[k]? = some x' → Rs H keep x x') : ORs H keep (.vec z ver es) (.vec z ver es')
  | mapo {es es' : List (AV × AV)} (hl : es'.length = es.length) (hx : ∀ (k : Nat) (x x' : AV × AV), es[k]? = some x → es'[k]? = some x' → Rs H keep x.1 x'.1)
      (hy : ∀ (k : Nat) (x x' : AV × AV), es[k]? = some x → es'[k]? = some x' → Rs H keep x.2 x'.2) : ORs H keep (.mapo es) (.mapo es')
  | loopo {l : LoopA} {F' : Frm} (hF : ∀ (k : Nat) (x' : AV), F'.lookup k = some x' → Rs H keep (ev l.F (.tmp k)) x') : ORs H keep (.loopo l) (.loopo { l with F := F' })

/-- The state (F, H) may be told as (F', H'). -/
structure Vw (n0 : Nat) (keep : Nat → Prop) (F : Frm) (H : Heap) (F' : Frm) (H' : Heap) : Prop where
  fr : ∀ (k : Nat) (x' : AV), F'.lookup k = some x' → Rs H keep (ev F (.tmp k)) x'
  len : H'.length ≤ H.length
  low : n0 ≤ H'.length
  k0 : ∀ i, i < n0 → keep i
  dead : ∀ i, i < H'.length → keep i ∨ H'[i]? = some .dead
  lt : ∀ i, keep i → i < H'.length
  obj : ∀ i o o', keep i → H[i]? = some o → H'[i]? = some o' → ORs H keep o o'

open Classical in
noncomputable def vwCtx (keep : Nat → Prop) (C : Ctx) (H' : Heap) : Ctx := { C with H := H', β := fun i => if keep i then C.β i else none }

theorem vw_own {keep : Nat → Prop} {C : Ctx} {H' : Heap} (hlen : H'.length ≤ C.H.length) {b : Nat} (h : (vwCtx keep C H').own b) : ∃ i, i < C.H.length ∧ keep i ∧ C.β i = some b := by
  obtain ⟨i, hi, hb⟩ := h
  simp only [vwCtx] at hi hb
  split at hb
  · rename_i hk; exact ⟨i, by omega, hk, hb⟩
  · cases hb

theorem vw_weak {keep : Nat → Prop} {K : Kon} {C : Ctx} (hp : Hp K C) {n0 : Nat} {F F' : Frm} {H' : Heap} (v : Vw n0 keep F C.H F' H') : Weak keep C (vwCtx keep C H') where
  w := rfl
  lnt := fun b h => .inl h
  bad := fun b hb h => by
    rcases h with h | h
    · exact hb (.inl h)
    · obtain ⟨i, h1, _, h2⟩ := vw_own v.len h
      exact hb (.inr ⟨i, h1, h2⟩)
  free := fun i b hi hk hb h => by
    rcases h with h | h
    · exact hp.xown b h ⟨i, hi, hb⟩
    · obtain ⟨j, h1, h2, h3⟩ := vw_own v.len h
      have := hp.inj i j b hi h1 hb h3
      subst this
      exact hk h2
  lt := fun i hk _ => v.lt i hk
  var := fun i cs hk h => by
    have hl := v.lt i hk
    have := v.obj i _ _ hk h (List.getElem?_eq_getElem hl)
    refine ⟨?_, by simp [vwCtx, hk]⟩
    generalize hg : H'[i] = o at this
    cases this with
    | var _ _ => exact ⟨_, by show H'[i]? = _; rw [List.getElem?_eq_getElem hl, hg]⟩
  mapo := fun i cs hk h => by
    have hl := v.lt i hk
    have := v.obj i _ _ hk h (List.getElem?_eq_getElem hl)
    refine ⟨?_, by simp [vwCtx, hk]⟩
    generalize hg : H'[i] = o at this
    cases this with
    | mapo _ _ _ => exact ⟨_, by show H'[i]? = _; rw [List.getElem?_eq_getElem hl, hg]⟩
  loopo := fun i cs hk h => by
    have hl := v.lt i hk
    have := v.obj i _ _ hk h (List.getElem?_eq_getElem hl)
    refine ⟨?_, by simp [vwCtx, hk]⟩
    generalize hg : H'[i] = o at this
    cases this with
    | loopo _ => exact ⟨_, by show H'[i]? = _; rw [List.getElem?_eq_getElem hl, hg]⟩
  vec := fun i z ver es' hk h => by
    have hl : i < C.H.length := Nat.lt_of_lt_of_le (v.lt i hk) v.len
    have := v.obj i _ _ hk (List.getElem?_eq_getElem hl) h
    generalize hg : C.H[i] = o at this
    cases this with
    | vec h1 _ _ => exact ⟨_, by rw [List.getElem?_eq_getElem hl, hg], h1.symm, by simp [vwCtx, hk], rfl⟩

theorem rs_raw (H : Heap) (keep : Nat → Prop) (l : List Value) : Rs H keep (.rp (l.map .raw)) (.rp (l.map .raw)) :=
  .rp rfl (fun k x x' h h' => by
    rw [h] at h'; cases h'
    simp only [List.getElem?_map, Option.map_eq_some_iff] at h
    obtain ⟨y, _, rfl⟩ := h
    exact .raw y)

theorem FrOk.rs {keep : Nat → Prop} {C C' : Ctx} (hw : Weak keep C C') {K : Kon} (hp : Hp K C) {F F' : Frm} {tmps : Array Value} (h : FrOk C F tmps)
    (hr : ∀ (k : Nat) (x' : AV), F'.lookup k = some x' → Rs C.H keep (ev F (.tmp k)) x') : FrOk C' F' tmps := fun k x' hx =>
  (hr k x' hx).vl hw hp _ (ev_ok (a := { tmps := tmps, defers := [] }) h (.tmp k))

theorem Hp.vw {keep : Nat → Prop} {K : Kon} {C : Ctx} (hp : Hp K C) {n0 : Nat} (hn : K.C0.H.length = n0) {F F' : Frm} {H' : Heap} (v : Vw n0 keep F C.H F' H') : Hp K (vwCtx keep C H') := by
  have hw := vw_weak hp v
  have hown : ∀ b, (vwCtx keep C H').own b → C.own b := fun b hb => by obtain ⟨i, h1, _, h2⟩ := vw_own v.len hb; exact ⟨i, h1, h2⟩
  have hβ : ∀ i b, (vwCtx keep C H').β i = some b → keep i ∧ C.β i = some b := fun i b hb => by
    simp only [vwCtx] at hb; split at hb
    · rename_i hk; exact ⟨hk, hb⟩
    · cases hb
  refine
    { X := hp.X, xown := fun b hx ho => hp.xown b hx (hown b ho), xlt := hp.xlt, L := hp.L, lown := fun b hx ho => hp.lown b hx (hown b ho), llt := hp.llt
      inj := fun i j b hi hj hbi hbj => hp.inj i j b (Nat.lt_of_lt_of_le hi v.len) (Nat.lt_of_lt_of_le hj v.len) (hβ i b hbi).2 (hβ j b hbj).2
      lt := fun i b hi hb => hp.lt i b (Nat.lt_of_lt_of_le hi v.len) (hβ i b hb).2
      obj := fun i o' ho' => ?_
      ext := ?_
      os := hp.os, tape := hp.tape, output := hp.output, size := hp.size, same := hp.same
      ownn := fun b hb => hp.ownn b (hown b hb)
      glob := fun g cs hg => (rs_raw C.H keep cs).vl hw hp _ (hp.glob g cs hg) }
  · have hi : i < H'.length := get_lt ho'
    by_cases hk : keep i
    · have hl : i < C.H.length := Nat.lt_of_lt_of_le hi v.len
      have ho := List.getElem?_eq_getElem hl
      have hr := v.obj i _ _ hk ho ho'
      have hok := hp.obj i _ ho
      have hβi : (vwCtx keep C H').β i = C.β i := by simp [vwCtx, hk]
      generalize C.H[i] = o at hr hok
      cases hr with
      | var h1 h2 =>
        rename_i cs cs'
        obtain ⟨b, c, e, g1, g2, g3, g4⟩ := hok
        refine ⟨b, c, e, hβi.trans g1, g2, by omega, fun k x' hx' => ?_⟩
        have hx := List.getElem?_eq_getElem (l := cs) (i := k) (by have := get_lt hx'; omega)
        exact (h2 k _ x' hx hx').vl hw hp _ (g4 k _ hx)
      | vec h1 h2 h3 =>
        rename_i z ver es es'
        obtain ⟨g0, g1, g2, g3⟩ := hok
        refine ⟨g0, fun e he => ?_, by show es'.length ≤ C.κ i; omega, ?_⟩
        · obtain ⟨k, hk', rfl⟩ := List.mem_iff_getElem.1 he
          rw [h2 k (es[k]'(by omega)) _ (List.getElem?_eq_getElem (by omega)) (List.getElem?_eq_getElem hk')]
          exact g1 _ (List.getElem_mem _)
        · rcases g3 with g3 | ⟨b, c, t, g4, g5, g6, g7⟩
          · exact .inl ⟨hβi.trans g3.1, g3.2⟩
          · exact .inr ⟨b, c, t, hβi.trans g4, g5, g6, flat_vl es es' h2 h3 (fun k x x' hx hx' => (h3 k x x' hx hx').vl hw hp) (by omega) (fun k => c.getD k undef) g7⟩
      | mapo h1 h2 h3 =>
        rename_i es es'
        obtain ⟨b, ents, clock, g1, g2, g3, g4, g5⟩ := hok
        refine ⟨b, ents, clock, hβi.trans g1, g2, by omega, fun k x' hx' => ?_, g5⟩
        have hx := List.getElem?_eq_getElem (l := es) (i := k) (by have := get_lt hx'; omega)
        exact ⟨(h2 k _ x' hx hx').vl hw hp _ (g4 k _ hx).1, (h3 k _ x' hx hx').vl hw hp _ (g4 k _ hx).2⟩
      | loopo h1 =>
        obtain ⟨b, r, g1, g2, g3, g4, g5, g6, g7, g8, g9⟩ := hok
        exact ⟨b, r, hβi.trans g1, g2, g3, g4, g5, g6, g7, g8, g9.rs hw hp h1⟩
    · rcases v.dead i hi with h | h
      · exact absurd h hk
      · have ho'' : H'[i]? = some o' := ho'
        rw [h] at ho''; cases ho''; trivial
  · exact
      { len := by rw [hn]; exact v.low
        lnt := hp.ext.lnt
        pers := fun b h1 h2 => ⟨(hp.ext.pers b h1 h2).1, hw.bad b (hp.ext.pers b h1 h2).2⟩
        var := fun i cs h => by
          have hk := v.k0 i (by rw [← hn]; exact get_lt h)
          obtain ⟨⟨cs', h1⟩, h2⟩ := hp.ext.var i cs h
          have := hw.var i cs' hk h1
          exact ⟨this.1, this.2.trans h2⟩
        mapo := fun i cs h => by
          have hk := v.k0 i (by rw [← hn]; exact get_lt h)
          obtain ⟨⟨cs', h1⟩, h2⟩ := hp.ext.mapo i cs h
          have := hw.mapo i cs' hk h1
          exact ⟨this.1, this.2.trans h2⟩
        loopo := fun i cs h => by
          have hk := v.k0 i (by rw [← hn]; exact get_lt h)
          obtain ⟨⟨cs', h1⟩, h2⟩ := hp.ext.loopo i cs h
          have := hw.loopo i cs' hk h1
          exact ⟨this.1, this.2.trans h2⟩
        vec := fun i z v' es' hi hh => by
          have hk := v.k0 i (by rw [← hn]; exact hi)
          obtain ⟨es, h1, h2, h3, h4⟩ := hw.vec i z v' es' hk hh
          obtain ⟨v0, es0, g1, g2, g3⟩ := hp.ext.vec i z v' es hi h1
          exact ⟨v0, es0, g1, g2, fun e => by obtain ⟨a1, a2, a3⟩ := g3 e; exact ⟨by omega, h3.trans a2, h4.trans a3⟩⟩ }

theorem awp_view {E : Env} {c : Code} {Q : Exit → Frm → Heap → Prop} {F : Frm} {H : Heap} (keep : Nat → Prop) {F' : Frm} {H' : Heap} (v : Vw E.n0 keep F H F' H') (h : AWp E c Q F' H') : AWp E c Q F H := by
  intro K C a h1 h2 h3 h4 h5
  subst h5
  have hw := vw_weak h4.hp v
  refine h K (vwCtx keep C H') a h1 h2 h3 { hp := h4.hp.vw h1 v, size := h4.size, fr := h4.fr.rs hw h4.hp v.fr, marks := ?_ } rfl
  obtain ⟨Ds, g1, g2, g3⟩ := h4.marks
  exact ⟨Ds, g1, g2, fun D hD => ⟨(g3 D hD).1, hw.bad D (g3 D hD).2.1, (g3 D hD).2.2⟩⟩

end Go.Ab
namespace Go.Ab
open Go

/-- What a caller needs of a call. -/
def CallS (P : Program) (G : List (Nat × List Value)) (f : FuncId) (args : List AV) (H : Heap) (R : AV → Heap → Prop) : Prop :=
  ∀ (K : Kon) (C : Ctx) (vs : Array Value), K.G = G → C.H = H → Hp K C → ArgsOk C args vs →
    CallsIn Fence.wide 0 P f vs C.w (fun e w' => ∃ r v C', e = .returned v ∧ C'.w = w' ∧ Ext C C' ∧ Hp K C' ∧ Vl C' r v ∧ R r C'.H)

theorem CallS.mono {P : Program} {G : List (Nat × List Value)} {f : FuncId} {args : List AV} {H : Heap} {R R' : AV → Heap → Prop} (h : CallS P G f args H R)
    (hr : ∀ r H', R r H' → R' r H') : CallS P G f args H R' :=
  fun K C vs h1 h2 h3 h4 => (h K C vs h1 h2 h3 h4).mono fun e w' ⟨r, v, C', a, b, c, d, g, k⟩ => ⟨r, v, C', a, b, c, d, g, hr _ _ k⟩

theorem Hp.base {K : Kon} {C : Ctx} (h : Hp K C) : Hp ⟨C, K.G, none⟩ C where
  X := rfl
  xown := h.xown
  xlt := fun b hb => Nat.lt_of_lt_of_le (h.xlt b hb) h.size
  L := rfl
  lown := h.lown
  llt := fun b hb => Nat.lt_of_lt_of_le (h.llt b hb) h.size
  inj := h.inj
  lt := h.lt
  obj := h.obj
  ext := Ext.refl C
  os := rfl
  tape := rfl
  output := rfl
  size := Nat.le_refl _
  same := fun _ _ _ => rfl
  ownn := fun _ hb => .inl hb
  glob := h.glob

theorem Hp.comp {K : Kon} {C C' : Ctx} (h : Hp K C) {rb : Option Nat} (h' : Hp ⟨C, K.G, rb⟩ C') : Hp K C' where
  X := h'.X.trans h.X
  xown := h'.xown
  xlt := fun b hb => h.xlt b (by rw [← show C'.X = C.X from h'.X]; exact hb)
  L := h'.L.trans h.L
  lown := h'.lown
  llt := fun b hb => h.llt b (by rw [← show C'.L = C.L from h'.L]; exact hb)
  inj := h'.inj
  lt := h'.lt
  obj := h'.obj
  ext := h.ext.trans h'.ext
  os := h'.os.trans h.os
  tape := h'.tape.trans h.tape
  output := h'.output.trans h.output
  size := Nat.le_trans h.size h'.size
  same := fun b hb hn => (h'.same b (Nat.lt_of_lt_of_le hb h.size) (fun ho => (h.ownn b ho).elim hn (fun hh => by omega))).trans (h.same b hb hn)
  ownn := fun b hb => (h'.ownn b hb).elim (h.ownn b) (fun hh => .inr (Nat.le_trans h.size hh))
  glob := h'.glob

theorem ACall.calls {P : Program} {G : List (Nat × List Value)} {f : FuncId} {args : List AV} {H : Heap} {R : AV → Heap → Prop} (h : ACall P G f args H R) : CallS P G f args H R := by
  intro K C vs hG hH hp ha
  refine (h C vs hH (by rw [← hG]; exact hp.base) ha).mono ?_
  rintro e w' ⟨r, v, C', a, b, c, d, g⟩
  rw [← hG] at c
  exact ⟨r, v, C', a, b, c.ext, hp.comp c, d, g⟩

/-- Data without own memory in it. -/
inductive Pur : AV → Prop
  | any : Pur .any
  | raw (v : Value) : Pur (.raw v)
  | rp {cs : List AV} (h : ∀ x ∈ cs, Pur x) : Pur (.rp cs)
  | sl {z : Nat} {full : Fl} {es : List AV} (h : ∀ x ∈ es, Pur x) : Pur (.sl z full es)
  | slb {z n : Nat} {es : List AV} (h : ∀ x ∈ es, Pur x) : Pur (.slb z n es)
  | pm {es : List (AV × AV)} (h : ∀ x ∈ es, Pur x.1) (h' : ∀ x ∈ es, Pur x.2) : Pur (.pm es)
  | fn {f : FuncId} {a b : List AV} (h : ∀ x ∈ a, Pur x) (h' : ∀ x ∈ b, Pur x) : Pur (.fn f a b)
  | agg {cs : List AV} (h : ∀ x ∈ cs, Pur x) : Pur (.agg cs)
  | tup {cs : List AV} (h : ∀ x ∈ cs, Pur x) : Pur (.tup cs)

@[simp] theorem pur_any : Pur .any ↔ True := ⟨fun _ => trivial, fun _ => .any⟩
@[simp] theorem pur_raw (v : Value) : Pur (.raw v) ↔ True := ⟨fun _ => trivial, fun _ => .raw v⟩
@[simp] theorem pur_rp (cs : List AV) : Pur (.rp cs) ↔ ∀ x ∈ cs, Pur x := ⟨fun h => by cases h; assumption, .rp⟩
@[simp] theorem pur_sl (z : Nat) (b : Fl) (cs : List AV) : Pur (.sl z b cs) ↔ ∀ x ∈ cs, Pur x := ⟨fun h => by cases h; assumption, .sl⟩
@[simp] theorem pur_slb (z n : Nat) (cs : List AV) : Pur (.slb z n cs) ↔ ∀ x ∈ cs, Pur x := ⟨fun h => by cases h; assumption, .slb⟩
@[simp] theorem pur_agg (cs : List AV) : Pur (.agg cs) ↔ ∀ x ∈ cs, Pur x := ⟨fun h => by cases h; assumption, .agg⟩
@[simp] theorem pur_tup (cs : List AV) : Pur (.tup cs) ↔ ∀ x ∈ cs, Pur x := ⟨fun h => by cases h; assumption, .tup⟩
@[simp] theorem pur_fn (f : FuncId) (a b : List AV) : Pur (.fn f a b) ↔ (∀ x ∈ a, Pur x) ∧ (∀ x ∈ b, Pur x) := ⟨fun h => by cases h; exact ⟨by assumption, by assumption⟩, fun h => .fn h.1 h.2⟩
@[simp] theorem pur_pm (es : List (AV × AV)) : Pur (.pm es) ↔ (∀ x ∈ es, Pur x.1) ∧ (∀ x ∈ es, Pur x.2) := ⟨fun h => by cases h; exact ⟨by assumption, by assumption⟩, fun h => .pm h.1 h.2⟩
@[simp] theorem pur_ptr (i o : Nat) : Pur (.ptr i o) ↔ False := ⟨(fun h => nomatch h), False.elim⟩
@[simp] theorem pur_pel (i v j o : Nat) : Pur (.pel i v j o) ↔ False := ⟨(fun h => nomatch h), False.elim⟩
@[simp] theorem pur_slo (i v o l : Nat) : Pur (.slo i v o l) ↔ False := ⟨(fun h => nomatch h), False.elim⟩
@[simp] theorem pur_mp (i : Nat) : Pur (.mp i) ↔ False := ⟨(fun h => nomatch h), False.elim⟩
@[simp] theorem pur_yl (i : Nat) : Pur (.yl i) ↔ False := ⟨(fun h => nomatch h), False.elim⟩

/-- Data that lead to no memory at all. -/
inductive Flt : AV → Prop
  | any : Flt .any
  | raw (v : Value) : Flt (.raw v)
  | fn {f : FuncId} {a b : List AV} (h : ∀ x ∈ a, Flt x) (h' : ∀ x ∈ b, Flt x) : Flt (.fn f a b)
  | agg {cs : List AV} (h : ∀ x ∈ cs, Flt x) : Flt (.agg cs)
  | tup {cs : List AV} (h : ∀ x ∈ cs, Flt x) : Flt (.tup cs)

@[simp] theorem flt_any : Flt .any ↔ True := ⟨fun _ => trivial, fun _ => .any⟩
@[simp] theorem flt_raw (v : Value) : Flt (.raw v) ↔ True := ⟨fun _ => trivial, fun _ => .raw v⟩
@[simp] theorem flt_agg (cs : List AV) : Flt (.agg cs) ↔ ∀ x ∈ cs, Flt x := ⟨fun h => by cases h; assumption, .agg⟩
@[simp] theorem flt_tup (cs : List AV) : Flt (.tup cs) ↔ ∀ x ∈ cs, Flt x := ⟨fun h => by cases h; assumption, .tup⟩
@[simp] theorem flt_fn (f : FuncId) (a b : List AV) : Flt (.fn f a b) ↔ (∀ x ∈ a, Flt x) ∧ (∀ x ∈ b, Flt x) := ⟨fun h => by cases h; exact ⟨by assumption, by assumption⟩, fun h => .fn h.1 h.2⟩

theorem mem_get {α : Type} {l : List α} {k : Nat} {x : α} (h : l[k]? = some x) : x ∈ l := List.mem_of_getElem? h

theorem Pur.rs {H : Heap} {keep : Nat → Prop} {x : AV} (h : Pur x) : Rs H keep x x := by
  induction h with
  | any => exact .any _
  | raw v => exact .raw v
  | rp h ih => exact .rp rfl (fun k x x' h1 h2 => by rw [h1] at h2; cases h2; exact ih _ (mem_get h1))
  | sl h ih => exact .sl (Fl.le_refl _) rfl (fun k x x' h1 h2 => by rw [h1] at h2; cases h2; rfl) (fun k x x' h1 h2 => by rw [h1] at h2; cases h2; exact ih _ (mem_get h1))
  | slb h ih => exact .slb rfl (fun k x x' h1 h2 => by rw [h1] at h2; cases h2; rfl) (fun k x x' h1 h2 => by rw [h1] at h2; cases h2; exact ih _ (mem_get h1))
  | pm h h' ih ih' => exact .pm rfl (fun k x x' h1 h2 => by rw [h1] at h2; cases h2; exact ih _ (mem_get h1)) (fun k x x' h1 h2 => by rw [h1] at h2; cases h2; exact ih' _ (mem_get h1))
  | fn h h' ih ih' => exact .fn rfl rfl (fun k x x' h1 h2 => by rw [h1] at h2; cases h2; exact ih _ (mem_get h1)) (fun k x x' h1 h2 => by rw [h1] at h2; cases h2; exact ih' _ (mem_get h1))
  | agg h ih => exact .agg rfl (fun k x x' h1 h2 => by rw [h1] at h2; cases h2; exact ih _ (mem_get h1))
  | tup h ih => exact .tup rfl (fun k x x' h1 h2 => by rw [h1] at h2; cases h2; exact ih _ (mem_get h1))

theorem Flt.rs {H : Heap} {keep : Nat → Prop} {x : AV} (h : Flt x) : Rs H keep x x := by
  induction h with
  | any => exact .any _
  | raw v => exact .raw v
  | fn h h' ih ih' => exact .fn rfl rfl (fun k x x' h1 h2 => by rw [h1] at h2; cases h2; exact ih _ (mem_get h1)) (fun k x x' h1 h2 => by rw [h1] at h2; cases h2; exact ih' _ (mem_get h1))
  | agg h ih => exact .agg rfl (fun k x x' h1 h2 => by rw [h1] at h2; cases h2; exact ih _ (mem_get h1))
  | tup h ih => exact .tup rfl (fun k x x' h1 h2 => by rw [h1] at h2; cases h2; exact ih _ (mem_get h1))

theorem Flt.vl {C C' : Ctx} {x : AV} (h : Flt x) : ∀ v, Vl C x v → Vl C' x v := by
  induction h with
  | any => exact fun v _ => .any v
  | raw v => intro u hu; cases hu; exact .raw v
  | fn h h' ih ih' => intro u hu; cases hu with
    | fn h1 h2 h3 h4 => exact .fn h1 h2 (fun k x hx => ih x (mem_get hx) _ (h3 k x hx)) (fun k x hx => ih' x (mem_get hx) _ (h4 k x hx))
  | agg h ih => intro u hu; cases hu with
    | agg h1 h2 => exact .agg h1 (fun k x hx => ih x (mem_get hx) _ (h2 k x hx))
  | tup h ih => intro u hu; cases hu with
    | tup h1 h2 => exact .tup h1 (fun k x hx => ih x (mem_get hx) _ (h2 k x hx))

/-- Pure data, told with other memory out of bounds. -/
theorem Pur.vl {C C' : Ctx} (hw : C'.w = C.w) (hb : ∀ b, ¬ C.bad b → ¬ C'.bad b) (hl : ∀ b, ¬ C.bad b → ¬ C.L b → ¬ C'.L b) {x : AV} (h : Pur x) : ∀ v, Vl C x v → Vl C' x v := by
  induction h with
  | any => exact fun v _ => .any v
  | raw v => intro u hu; cases hu; exact .raw v
  | rp h ih => intro u hu; cases hu with
    | rp g h1 h2 h3 h4 => exact .rp g (hb _ h1) (by rw [hw]; exact h2) (by rw [hw]; exact h3) (fun k x hx => ih x (mem_get hx) _ (h4 k x hx))
  | sl h ih => intro u hu; cases hu with
    | sl g h1 h2 h3 h4 h5 h6 hL h7 =>
      refine .sl g h1 h2 h3 h4 h5 (fun x hx hne => ?_) (fun h0 x hx hne => hl _ (h6 x hx hne).2.1 (hL h0 x hx hne)) (fun k y hy => ?_)
      · obtain ⟨a, b, c⟩ := h6 x hx hne
        exact ⟨a, hb _ b, by rw [hw]; exact c⟩
      · exact flat_vl (H := []) (keep := fun _ => True) _ _ (fun k x x' h1 h2 => by rw [h1] at h2; cases h2; rfl) (fun k x x' h1 h2 => by rw [h1] at h2; cases h2; exact (h x (mem_get h1)).rs)
          (fun k x x' h1 h2 => by rw [h1] at h2; cases h2; exact ih x (mem_get h1)) (Nat.le_refl _) g h7 k y hy
  | slb h ih => intro u hu; cases hu with
    | slb g h1 h1' h2 h4 h5 h6 h7 =>
      refine .slb g h1 h1' h2 h4 h5 (fun x hx hne => ?_) (fun k y hy => ?_)
      · obtain ⟨a, b, c⟩ := h6 x hx hne
        exact ⟨a, hb _ b, by rw [hw]; exact c⟩
      · exact flat_vl (H := []) (keep := fun _ => True) _ _ (fun k x x' h1 h2 => by rw [h1] at h2; cases h2; rfl) (fun k x x' h1 h2 => by rw [h1] at h2; cases h2; exact (h x (mem_get h1)).rs)
          (fun k x x' h1 h2 => by rw [h1] at h2; cases h2; exact ih x (mem_get h1)) (Nat.le_refl _) g h7 k y hy
  | pm h h' ih ih' => intro u hu; cases hu with
    | pm h1 hL h2 h3 h4 h5 => exact .pm (hb _ h1) (hl _ h1 hL) (by rw [hw]; exact h2) h3 (fun k x hx => ih x (mem_get hx) _ (h4 k x hx)) (fun k x hx => ih' x (mem_get hx) _ (h5 k x hx))
  | fn h h' ih ih' => intro u hu; cases hu with
    | fn h1 h2 h3 h4 => exact .fn h1 h2 (fun k x hx => ih x (mem_get hx) _ (h3 k x hx)) (fun k x hx => ih' x (mem_get hx) _ (h4 k x hx))
  | agg h ih => intro u hu; cases hu with
    | agg h1 h2 => exact .agg h1 (fun k x hx => ih x (mem_get hx) _ (h2 k x hx))
  | tup h ih => intro u hu; cases hu with
    | tup h1 h2 => exact .tup h1 (fun k x hx => ih x (mem_get hx) _ (h2 k x hx))

/-- The world of a call that is handed pure data. -/
def bare (C : Ctx) (X : Nat → Prop) : Ctx := { w := C.w, X := X, L := C.L, H := [], β := fun _ => none, κ := fun _ => 0 }

theorem bare_bad {C : Ctx} {X : Nat → Prop} {b : Nat} (h : (bare C X).bad b) : X b := by
  rcases h with h | ⟨i, hi, _⟩
  · exact h
  · simp [bare] at hi

theorem bare_hp {K : Kon} {C : Ctx} (hp : Hp K C) (X : Nat → Prop) (hX : ∀ b, X b → C.bad b) : Hp ⟨bare C X, K.G, none⟩ (bare C X) where
  X := rfl
  xown := fun b _ ⟨i, hi, _⟩ => by simp [bare] at hi
  xlt := fun b hb => by
    rcases hX b hb with h | ⟨i, hi, h⟩
    · exact Nat.lt_of_lt_of_le (hp.xlt b h) hp.size
    · exact hp.lt i b hi h
  L := rfl
  lown := fun b _ ⟨i, hi, _⟩ => by simp [bare] at hi
  llt := fun b hb => Nat.lt_of_lt_of_le (hp.llt b hb) hp.size
  inj := fun i _ _ hi _ _ _ => by simp [bare] at hi
  lt := fun i _ hi _ => by simp [bare] at hi
  obj := fun i o h => by simp [bare] at h
  ext := Ext.refl _
  os := rfl
  tape := rfl
  output := rfl
  size := Nat.le_refl _
  same := fun _ _ _ => rfl
  ownn := fun _ hb => .inl hb
  glob := fun g cs hg => by
    have : Pur (.rp (cs.map .raw)) := by simp
    exact this.vl (C := C) (C' := bare C X) rfl (fun b hb h => hb (hX b (bare_bad h))) (fun b _ h => h) _ (hp.glob g cs hg)

/-- Behind such a call all that the caller owns is as it was. -/
theorem bare_back {K : Kon} {C : Ctx} (hp : Hp K C) {X : Nat → Prop} {C1 : Ctx} (h : Hp ⟨bare C X, K.G, none⟩ C1) : Ext C { C with w := C1.w } ∧ Hp K { C with w := C1.w } :=
  hp.world C1.w h.os h.tape h.output h.size (fun b hb => h.same b hb (fun ⟨i, hi, _⟩ => by simp [bare] at hi))

/-- A pure call: the arguments are pure data, and so is what comes back. -/
theorem CallS.pure {P : Program} {G : List (Nat × List Value)} {f : FuncId} {args : List AV} {R : AV → Prop} (ha : ∀ x ∈ args, Pur x) (hr : ∀ r, R r → Pur r)
    (h : ACall P G f args [] (fun r H' => R r ∧ H' = [])) (H : Heap) : CallS P G f args H (fun r H' => R r ∧ H' = H) := by
  intro K C vs hG hH hp hargs
  subst hH
  subst hG
  have hbad : ∀ b, C.bad b → (bare C C.bad).bad b := fun b hb => .inl hb
  refine (h (bare C C.bad) vs rfl (bare_hp hp C.bad (fun b hb => hb)) ⟨hargs.1, fun k x hx => ?_⟩).mono ?_
  · exact (ha x (mem_get hx)).vl (C := C) (C' := bare C C.bad) rfl (fun b hb h => hb (bare_bad h)) (fun b _ h => h) _ (hargs.2 k x hx)
  · rintro e w' ⟨r, v, C1, rfl, rfl, hp1, hv, hR, hH1⟩
    obtain ⟨e1, e2⟩ := bare_back hp hp1
    refine ⟨r, v, { C with w := C1.w }, rfl, rfl, e1, e2, ?_, hR, rfl⟩
    refine (hr r hR).vl (C := C1) (C' := { C with w := C1.w }) rfl (fun b hb h => hb ?_) (fun b _ h h' => h ?_) _ hv
    · refine .inl ?_
      rw [hp1.X]
      exact h
    · rw [hp1.L]; exact h'

/-- A call that is lent own memory as data; what comes back leads to no memory. -/
theorem CallS.lend {P : Program} {G : List (Nat × List Value)} {f : FuncId} {args args' : List AV} {H : Heap} {R : AV → Prop} (hl : args'.length = args.length)
    (ha : ∀ (k : Nat) (x x' : AV), args[k]? = some x → args'[k]? = some x' → Rs H (fun _ => False) x x') (hr : ∀ r, R r → Flt r)
    (h : ACall P G f args' [] (fun r H' => R r ∧ H' = [])) : CallS P G f args H (fun r H' => R r ∧ H' = H) := by
  intro K C vs hG hH hp hargs
  subst hH
  subst hG
  have hw : Weak (fun _ => False) C (bare C C.X) :=
    { w := rfl, lnt := fun b h => .inl h, bad := fun b hb h => hb (.inl (bare_bad h)), free := fun i b hi _ hb h => hp.xown b (bare_bad h) ⟨i, hi, hb⟩, lt := fun _ h => h.elim
      var := fun _ _ h => h.elim, mapo := fun _ _ h => h.elim, loopo := fun _ _ h => h.elim, vec := fun _ _ _ _ h => h.elim }
  refine (h (bare C C.X) vs rfl (bare_hp hp C.X (fun b hb => .inl hb)) ⟨by rw [hl]; exact hargs.1, fun k x' hx' => ?_⟩).mono ?_
  · have hk : k < args.length := by have := get_lt hx'; omega
    have hx := List.getElem?_eq_getElem hk
    exact (ha k _ x' hx hx').vl hw hp _ (hargs.2 k _ hx)
  · rintro e w' ⟨r, v, C1, rfl, rfl, hp1, hv, hR, hH1⟩
    obtain ⟨e1, e2⟩ := bare_back hp hp1
    exact ⟨r, v, { C with w := C1.w }, rfl, rfl, e1, e2, (hr r hR).vl _ hv, hR, rfl⟩

/-- Data that lead to no memory but such as is told not to be lent. -/
inductive Fsh : AV → Prop
  | any : Fsh .any
  | raw (v : Value) : Fsh (.raw v)
  | sl {z : Nat} {full : Fl} {es : List AV} (hf : full.lent = false) (h : ∀ x ∈ es, Fsh x) : Fsh (.sl z full es)
  | pm {es : List (AV × AV)} (h : ∀ x ∈ es, Fsh x.1) (h' : ∀ x ∈ es, Fsh x.2) : Fsh (.pm es)
  | agg {cs : List AV} (h : ∀ x ∈ cs, Fsh x) : Fsh (.agg cs)
  | tup {cs : List AV} (h : ∀ x ∈ cs, Fsh x) : Fsh (.tup cs)
@[simp] theorem fsh_any : Fsh .any ↔ True := ⟨fun _ => trivial, fun _ => .any⟩
@[simp] theorem fsh_raw (v : Value) : Fsh (.raw v) ↔ True := ⟨fun _ => trivial, fun _ => .raw v⟩
@[simp] theorem fsh_sl (z : Nat) (f : Fl) (es : List AV) : Fsh (.sl z f es) ↔ f.lent = false ∧ ∀ x ∈ es, Fsh x := ⟨fun h => by cases h; exact ⟨by assumption, by assumption⟩, fun h => .sl h.1 h.2⟩
@[simp] theorem fsh_agg (cs : List AV) : Fsh (.agg cs) ↔ ∀ x ∈ cs, Fsh x := ⟨fun h => by cases h; assumption, .agg⟩
@[simp] theorem fsh_tup (cs : List AV) : Fsh (.tup cs) ↔ ∀ x ∈ cs, Fsh x := ⟨fun h => by cases h; assumption, .tup⟩
@[simp] theorem fsh_pm (es : List (AV × AV)) : Fsh (.pm es) ↔ (∀ x ∈ es, Fsh x.1) ∧ (∀ x ∈ es, Fsh x.2) := ⟨fun h => by cases h; exact ⟨by assumption, by assumption⟩, fun h => .pm h.1 h.2⟩
theorem Fsh.pur {x : AV} (h : Fsh x) : Pur x := by
  induction h with
  | any => exact .any
  | raw v => exact .raw v
  | sl hf h ih => exact .sl ih
  | pm h h' ih ih' => exact .pm ih ih'
  | agg h ih => exact .agg ih
  | tup h ih => exact .tup ih
theorem Fsh.vl {C C' : Ctx} (hw : C'.w = C.w) (hb : ∀ b, ¬ C.bad b → ¬ C.L b → ¬ C'.bad b ∧ ¬ C'.L b) {x : AV} (h : Fsh x) : ∀ v, Vl C x v → Vl C' x v := by
  induction h with
  | any => exact fun v _ => .any v
  | raw v => intro u hu; cases hu; exact .raw v
  | sl hf h ih => intro u hu; cases hu with
    | sl g h1 h2 h3 h4 h5 h6 hL h7 =>
      refine .sl g h1 h2 h3 h4 h5 (fun x hx hne => ?_) (fun h0 x hx hne => (hb _ (h6 x hx hne).2.1 (hL h0 x hx hne)).2) (fun k y hy => ?_)
      · obtain ⟨a, b, c⟩ := h6 x hx hne
        exact ⟨a, (hb _ b (hL hf x hx hne)).1, by rw [hw]; exact c⟩
      · exact flat_vl (m := false) (H := []) (keep := fun _ => True) _ _ (fun k x x' h1 h2 => by rw [h1] at h2; cases h2; rfl) (fun k x x' h1 h2 => by rw [h1] at h2; cases h2; exact (h x (mem_get h1)).pur.rs)
          (fun k x x' h1 h2 => by rw [h1] at h2; cases h2; exact ih x (mem_get h1)) (Nat.le_refl _) g h7 k y hy
  | pm h h' ih ih' => intro u hu; cases hu with
    | pm h1 hL h2 h3 h4 h5 => exact .pm (hb _ h1 hL).1 (hb _ h1 hL).2 (by rw [hw]; exact h2) h3 (fun k x hx => ih x (mem_get hx) _ (h4 k x hx)) (fun k x hx => ih' x (mem_get hx) _ (h5 k x hx))
  | agg h ih => intro u hu; cases hu with
    | agg h1 h2 => exact .agg h1 (fun k x hx => ih x (mem_get hx) _ (h2 k x hx))
  | tup h ih => intro u hu; cases hu with
    | tup h1 h2 => exact .tup h1 (fun k x hx => ih x (mem_get hx) _ (h2 k x hx))

/-- The world of a call that is lent what the caller owns. -/
def lentC (C : Ctx) : Ctx := { w := C.w, X := C.X, L := fun b => C.L b ∨ C.own b, H := [], β := fun _ => none, κ := fun _ => 0 }
theorem lentC_bad {C : Ctx} {b : Nat} (h : (lentC C).bad b) : C.X b := by
  rcases h with h | ⟨i, hi, _⟩
  · exact h
  · simp [lentC] at hi
theorem lentC_hp {K : Kon} {C : Ctx} (hp : Hp K C) : Hp ⟨lentC C, K.G, none⟩ (lentC C) where
  X := rfl
  xown := fun b _ ⟨i, hi, _⟩ => by simp [lentC] at hi
  xlt := fun b hb => Nat.lt_of_lt_of_le (hp.xlt b hb) hp.size
  L := rfl
  lown := fun b _ ⟨i, hi, _⟩ => by simp [lentC] at hi
  llt := fun b hb => by
    rcases hb with h | ⟨i, hi, h⟩
    · exact Nat.lt_of_lt_of_le (hp.llt b h) hp.size
    · exact hp.lt i b hi h
  inj := fun i _ _ hi _ _ _ => by simp [lentC] at hi
  lt := fun i _ hi _ => by simp [lentC] at hi
  obj := fun i o h => by simp [lentC] at h
  ext := Ext.refl _
  os := rfl
  tape := rfl
  output := rfl
  size := Nat.le_refl _
  same := fun _ _ _ => rfl
  ownn := fun _ hb => .inl hb
  glob := fun g cs hg => by
    have hv := hp.glob g cs hg
    cases hv with
    | rp g h1 h2 h3 h4 => exact .rp g (fun h => h1 (.inl (lentC_bad h))) h2 h3 (fun k x hx => by
        have := h4 k x hx
        simp only [List.getElem?_map, Option.map_eq_some_iff] at hx
        obtain ⟨y, _, rfl⟩ := hx
        cases this; exact .raw _)
theorem lentC_back {K : Kon} {C : Ctx} (hp : Hp K C) {C1 : Ctx} (h : Hp ⟨lentC C, K.G, none⟩ C1) : Ext C { C with w := C1.w } ∧ Hp K { C with w := C1.w } :=
  hp.world C1.w h.os h.tape h.output h.size (fun b hb => h.same b hb (fun ⟨i, hi, _⟩ => by simp [lentC] at hi))
/-- A call that is lent own memory as data; what comes back lies in none of it. -/
theorem CallS.lendF {P : Program} {G : List (Nat × List Value)} {f : FuncId} {args args' : List AV} {H : Heap} {R : AV → Prop} (hl : args'.length = args.length)
    (ha : ∀ (k : Nat) (x x' : AV), args[k]? = some x → args'[k]? = some x' → RsG true H (fun _ => False) x x') (hr : ∀ r, R r → Fsh r)
    (h : ACall P G f args' [] (fun r H' => R r ∧ H' = [])) : CallS P G f args H (fun r H' => R r ∧ H' = H) := by
  intro K C vs hG hH hp hargs
  subst hH
  subst hG
  have hw : WeakG true (fun _ => False) C (lentC C) :=
    { w := rfl, lnt := fun b h => h.elim .inl (fun h => .inr ⟨rfl, h⟩), bad := fun b hb h => hb (.inl (lentC_bad h)), free := fun i b hi _ hb h => hp.xown b (lentC_bad h) ⟨i, hi, hb⟩, lt := fun _ h => h.elim
      var := fun _ _ h => h.elim, mapo := fun _ _ h => h.elim, loopo := fun _ _ h => h.elim, vec := fun _ _ _ _ h => h.elim }
  refine (h (lentC C) vs rfl (lentC_hp hp) ⟨by rw [hl]; exact hargs.1, fun k x' hx' => ?_⟩).mono ?_
  · have hk : k < args.length := by have := get_lt hx'; omega
    have hx := List.getElem?_eq_getElem hk
    exact (ha k _ x' hx hx').vl hw hp _ (hargs.2 k _ hx)
  · rintro e w' ⟨r, v, C1, rfl, rfl, hp1, hv, hR, hH1⟩
    obtain ⟨e1, e2⟩ := lentC_back hp hp1
    refine ⟨r, v, { C with w := C1.w }, rfl, rfl, e1, e2, ?_, hR, rfl⟩
    refine (hr r hR).vl (C := C1) (C' := { C with w := C1.w }) rfl (fun b hb hL => ⟨fun h => ?_, fun h => ?_⟩) _ hv
    · rcases h with h | h
      · exact hb (.inl (by rw [hp1.X]; exact h))
      · exact hL (by rw [hp1.L]; exact .inr h)
    · exact hL (by rw [hp1.L]; exact .inl h)

end Go.Ab
namespace Go.Ab
open Go

/-- An operation, told over data. -/
def OpOk (P : Program) (o : Op) (F : Frm) (H : Heap) (v : AV) (H' : Heap) : Prop :=
  ∀ (K : Kon) (C : Ctx) (ρ : Operand → Value) (oo : Oper), oo.op = o → Hp K C → C.H = H → (∀ x, Vl C (ev F x) (ρ x)) →
    ∃ n u C', (execOp ρ oo).run P C.w = .ok n C'.w ∧ (n = .value u ∨ (n = .skip ∧ u = undef)) ∧ Ext C C' ∧ Hp K C' ∧ Vl C' v u ∧ C'.H = H'

/-- One that turns nothing. -/
theorem OpOk.still {P : Program} {o : Op} {F : Frm} {H : Heap} {v : AV}
    (h : ∀ (K : Kon) (C : Ctx) (ρ : Operand → Value) (oo : Oper), oo.op = o → Hp K C → C.H = H → (∀ x, Vl C (ev F x) (ρ x)) → ∃ u, (execOp ρ oo).run P C.w = .ok (.value u) C.w ∧ Vl C v u) :
    OpOk P o F H v H := fun K C ρ oo ho hp hH hρ =>
  let ⟨u, h1, h2⟩ := h K C ρ oo ho hp hH hρ
  ⟨.value u, u, C, h1, .inl rfl, Ext.refl C, hp, h2, hH⟩

section
variable {P : Program} {F : Frm} {H : Heap}

theorem ok_move (x : Operand) : OpOk P (.move x) F H (ev F x) H := .still fun K C ρ oo ho hp hH hρ => ⟨ρ x, by simp [execOp, ho], hρ x⟩
theorem ok_assign (x : Operand) : OpOk P (.assign x) F H (ev F x) H := .still fun K C ρ oo ho hp hH hρ => ⟨ρ x, by simp [execOp, ho], hρ x⟩

theorem ok_pick {c a b : Operand} {t : Bool} (h : ev F c = .raw (.bool t)) : OpOk P (.pick c a b) F H (if t then ev F a else ev F b) H :=
  .still fun K C ρ oo ho hp hH hρ => by
    have hc : ρ c = .bool t := Vl.raw_inv (h ▸ hρ c)
    refine ⟨if t then ρ a else ρ b, by cases t <;> simp [execOp, ho, hc, asBool], ?_⟩
    cases t <;> simp <;> exact hρ _

/-- Operations on plain values. -/
def rawBin (P : Program) (op : BinOp) (t : TypeId) (a b : Value) : Option Value :=
  match a, b with
  | .int k x, .int k' y => if k = k' then
      match op with
      | .add => some (.int k (k.wrap (x + y)))
      | .sub => some (.int k (k.wrap (x - y)))
      | .mul => some (.int k (k.wrap (x * y)))
      | .quo => if y = 0 then none else some (.int k (k.wrap (x.tdiv y)))
      | .rem => if y = 0 then none else some (.int k (x.tmod y))
      | .eql => some (.bool (x == y))
      | .neq => some (.bool (x != y))
      | .lss => some (.bool (x < y))
      | .leq => some (.bool (x ≤ y))
      | .gtr => some (.bool (x > y))
      | .geq => some (.bool (x ≥ y))
      | .and => some (.int k (k.wrap (BitVec.ofInt k.bits x &&& BitVec.ofInt k.bits y).toNat))
      | .or => some (.int k (k.wrap (BitVec.ofInt k.bits x ||| BitVec.ofInt k.bits y).toNat))
      | .xor => some (.int k (k.wrap (BitVec.ofInt k.bits x ^^^ BitVec.ofInt k.bits y).toNat))
      | _ => none
    else none
  | .string x, .string y =>
      match op with
      | .eql => some (.bool (x.toList == y.toList))
      | .neq => some (.bool (!(x.toList == y.toList)))
      | _ => none
  | .bool x, .bool y => match P.underlying t with
    | some .bool => match op with
      | .eql => some (.bool (x == y))
      | .neq => some (.bool (x != y))
      | _ => none
    | _ => none
  | _, _ => none

theorem equalIn_bool {t : TypeId} (hu : P.underlying t = some .bool) (d : Nat) (a b : Bool) (w : World) : (Op.equalIn (d + 1) t (.bool a) (.bool b)).run P w = .ok (a == b) w := by
  unfold Op.equalIn
  rw [Sem.run_bind, run_underlying hu]; rfl

theorem rawBin_run {op : BinOp} {t : TypeId} {x y : Operand} {a b v : Value} (h : rawBin P op t a b = some v) (w : World) :
    Sem.run P (do eqGuard op t x y a b; binOp op t a b) w = .ok v w := by
  unfold rawBin at h
  split at h
  · rename_i k x' k' y'
    split at h
    · rename_i hk
      subst hk
      cases op <;> simp at h <;> first
        | (subst h; simp [eqGuard, binOp, Op.intArith, Op.intCmp, Op.intBits, bne])
        | (obtain ⟨h0, rfl⟩ := h; simp [eqGuard, binOp, Op.intDiv, h0])
    · cases h
  · cases op <;> simp at h <;> (subst h; rfl)
  · rename_i x' y'
    split at h
    · rename_i hu
      have e : ∀ w, (Op.equal t (.bool x') (.bool y')).run P w = .ok (x' == y') w := equalIn_bool hu 9999 x' y'
      cases op <;> simp at h <;> subst h
      · rw [Sem.run_bind, show Sem.run P (eqGuard .eql t x y (.bool x') (.bool y')) w = .ok () w from rfl, Result.andThen_ok]
        show Sem.run P (do pure (Value.bool (← Op.equal t (.bool x') (.bool y')))) w = _
        rw [Sem.run_bind, e]; rfl
      · rw [Sem.run_bind, show Sem.run P (eqGuard .neq t x y (.bool x') (.bool y')) w = .ok () w from rfl, Result.andThen_ok]
        show Sem.run P (do pure (Value.bool (!(← Op.equal t (.bool x') (.bool y'))))) w = _
        rw [Sem.run_bind, e]; rfl
    · cases h
  · cases h

theorem ok_bin {op : BinOp} {t t' : TypeId} {x y : Operand} {a b v : Value} (hx : ev F x = .raw a) (hy : ev F y = .raw b) (h : rawBin P op t a b = some v) :
    OpOk P (.binOp op t x y t') F H (.raw v) H := .still fun K C ρ oo ho hp hH hρ => by
  have h1 : ρ x = a := Vl.raw_inv (hx ▸ hρ x)
  have h2 : ρ y = b := Vl.raw_inv (hy ▸ hρ y)
  refine ⟨v, ?_, .raw v⟩
  have := rawBin_run (x := x) (y := y) h C.w
  simp only [execOp, ho, h1, h2]
  rw [Sem.run_bind, this]; rfl

def rawUn (op : UnOp) (a : Value) : Option Value :=
  match op, a with
  | .not, .bool b => some (.bool !b)
  | .neg, .int k n => some (.int k (k.wrap (0 - n)))
  | _, _ => none

theorem ok_un {op : UnOp} {t : TypeId} {x : Operand} {a v : Value} (hx : ev F x = .raw a) (h : rawUn op a = some v) : OpOk P (.unOp op t x) F H (.raw v) H :=
  .still fun K C ρ oo ho hp hH hρ => by
    have h1 : ρ x = a := Vl.raw_inv (hx ▸ hρ x)
    refine ⟨v, ?_, .raw v⟩
    simp only [execOp, ho, h1]
    cases op <;> cases a <;> simp [rawUn] at h <;> (subst h; first | rfl | simp [Op.unary, Op.intArith])

def intKindOf (P : Program) (t : TypeId) : Option IntKind := match P.underlying t with | some (.int k) => some k | _ => none

theorem ok_conv {s d : TypeId} {x : Operand} {k k' ks : IntKind} {n : Int} (hs : intKindOf P s = some ks) (hd : intKindOf P d = some k') (hx : ev F x = .raw (.int k n)) :
    OpOk P (.convert s d x) F H (.raw (.int k' (k'.wrap n))) H := .still fun K C ρ oo ho hp hH hρ => by
  have h1 : ρ x = .int k n := Vl.raw_inv (hx ▸ hρ x)
  refine ⟨_, ?_, .raw _⟩
  have hs' : P.underlying s = some (.int ks) := by unfold intKindOf at hs; split at hs <;> simp at hs; subst hs; assumption
  have hd' : P.underlying d = some (.int k') := by unfold intKindOf at hd; split at hd <;> simp at hd; subst hd; assumption
  simp only [execOp, ho, h1, convert, Sem.run_bind, run_underlying hs', run_underlying hd', Result.andThen_ok, Conv.intToInt, Sem.run_pure]

theorem ok_extract {x : Operand} {i : Nat} {vs : List AV} {v : AV} (hx : ev F x = .tup vs) (hi : vs[i]? = some v) : OpOk P (.extract x i) F H v H :=
  .still fun K C ρ oo ho hp hH hρ => by
    have h := hx ▸ hρ x
    generalize hr : ρ x = r at h
    cases h with
    | tup h1 h2 =>
      rename_i us
      have hl : i < us.size := by rw [h1]; exact get_lt hi
      refine ⟨us.getD i undef, ?_, h2 i v hi⟩
      simp [execOp, ho, hr, Instr.extract, hl]

/-- A pointer that is none. -/
def isPtr : AV → Bool
  | .ptr _ _ => true
  | .rp _ => true
  | _ => false

theorem ok_nilCheck {x : Operand} (hx : isPtr (ev F x) = true) : OpOk P (.nilCheck x) F H (ev F x) H := .still fun K C ρ oo ho hp hH hρ => by
  have h := hρ x
  refine ⟨ρ x, ?_, hρ x⟩
  generalize hv : ρ x = r at h ⊢
  generalize ev F x = av at h hx
  cases h <;> simp [isPtr] at hx <;> simp [execOp, ho, hv]

theorem ok_makeFunc {f : FuncId} {a b : Array Operand} : OpOk P (.makeFunc (.func f) a b) F H (.fn f (a.toList.map (ev F)) (b.toList.map (ev F))) H := .still fun K C ρ oo ho hp hH hρ => by
  refine ⟨.func (.func f) (a.map ρ) (b.map ρ), by simp [execOp, ho, Instr.makeFunc], .fn (by simp) (by simp) (fun k x hx => ?_) (fun k x hx => ?_)⟩
  · simp only [List.getElem?_map, Option.map_eq_some_iff, Array.getElem?_toList] at hx
    obtain ⟨o, ho', rfl⟩ := hx
    have hl : k < a.size := by
      rcases Nat.lt_or_ge k a.size with h' | h'
      · exact h'
      · rw [Array.getElem?_eq_none h'] at ho'; cases ho'
    have : a[k] = o := by rw [Array.getElem?_eq_getElem hl] at ho'; exact Option.some.inj ho'
    simp [hl, this]; exact hρ o
  · simp only [List.getElem?_map, Option.map_eq_some_iff, Array.getElem?_toList] at hx
    obtain ⟨o, ho', rfl⟩ := hx
    have hl : k < b.size := by
      rcases Nat.lt_or_ge k b.size with h' | h'
      · exact h'
      · rw [Array.getElem?_eq_none h'] at ho'; cases ho'
    have : b[k] = o := by rw [Array.getElem?_eq_getElem hl] at ho'; exact Option.some.inj ho'
    simp [hl, this]; exact hρ o

theorem ok_load {t : TypeId} {x : Operand} {v : AV} (h : rdVar P t H (ev F x) = some v) : OpOk P (.load t x) F H v H := .still fun K C ρ oo ho hp hH hρ => by
  subst hH
  obtain ⟨b, o, u, h1, h2, h3⟩ := rdVar_ok (P := P) hp (hρ x) h
  exact ⟨u, by simp [execOp, ho, h1, Instr.loadAt, Instr.sureAddr, h2], h3⟩

/-- Where a field lies. -/
def fieldOff (P : Program) (s : TypeId) (f : Nat) : Option (Nat × TypeId) :=
  match P.underlying s with
  | some (.struct fs) => match fs[f]? with
    | some x => match tsize P x.type with
      | some 0 => none
      | some _ => some (x.offset, x.type)
      | none => none
    | none => none
  | _ => none

theorem fieldOff_spec {s : TypeId} {f o : Nat} {t : TypeId} (h : fieldOff P s f = some (o, t)) :
    ∃ fs x n, P.underlying s = some (.struct fs) ∧ fs[f]? = some x ∧ tsize P x.type = some n ∧ n ≠ 0 ∧ x.offset = o ∧ x.type = t := by
  unfold fieldOff at h
  split at h
  · rename_i fs hfs
    split at h
    · rename_i x hx
      split at h <;> simp at h
      rename_i n hn hs
      exact ⟨fs, x, n, hfs, hx, hs, hn, h.1, h.2⟩
    · cases h
  · cases h

/-- A pointer moved on within what it points to. -/
def ptrAdd (a : AV) (n : Nat) : Option AV :=
  match a with
  | .ptr i off => some (.ptr i (off + n))
  | .pel i ver j off => some (.pel i ver j (off + n))
  | .rp cs => if n ≤ cs.length then some (.rp (cs.drop n)) else none
  | _ => none

theorem ptrAdd_ok {C : Ctx} {a a' : AV} {v : Value} {n : Nat} (hv : Vl C a v) (h : ptrAdd a n = some a') (K : Kon) (hp : Hp K C) (hpel : ∀ i ver j off, a = .pel i ver j off → ∃ z es, C.H[i]? = some (.vec z ver es)) :
    ∃ b o, v = .pointer (some ⟨b, o, none⟩) ∧ Vl C a' (.pointer (some ⟨b, o + n, none⟩)) := by
  cases hv with
  | ptr h1 h2 => simp [ptrAdd] at h; subst h; exact ⟨_, _, rfl, .ptr h1 h2⟩
  | pel hi hv hh =>
    simp [ptrAdd] at h; subst h
    obtain ⟨z, es, hes⟩ := hpel _ _ _ _ rfl
    obtain ⟨hj, b, hb, rfl⟩ := hh _ _ hes
    refine ⟨b, _, rfl, .pel hi hv (fun z' es' hes' => ?_)⟩
    rw [hes] at hes'; cases hes'
    exact ⟨hj, b, hb, by rw [Nat.add_assoc]⟩
  | rp g hb hs hc hx =>
    simp [ptrAdd] at h
    obtain ⟨hle, rfl⟩ := h
    refine ⟨_, _, rfl, .rp (fun k => g (n + k)) hb hs (fun k hk => ?_) (fun k x hx' => ?_)⟩
    · rw [Nat.add_assoc]; exact hc (n + k) (by simp at hk; omega)
    · rw [List.getElem?_drop] at hx'; exact hx _ _ hx'
  | _ => simp [ptrAdd] at h

/-- Is a pointer into a row of the call's own up to date? -/
def fresh (H : Heap) : AV → Bool
  | .pel i ver _ _ => match H[i]? with | some (.vec _ v _) => v == ver | _ => false
  | _ => true

theorem fresh_pel {a : AV} (h : fresh H a = true) : ∀ i ver j off, a = .pel i ver j off → ∃ z es, H[i]? = some (.vec z ver es) := by
  rintro i ver j off rfl
  simp only [fresh] at h
  split at h
  · rename_i z v es hes
    have : v = ver := by simpa using h
    subst this
    exact ⟨z, es, hes⟩
  · cases h

theorem ok_fieldAddr {s : TypeId} {x : Operand} {f o : Nat} {t : TypeId} {v : AV} (hf : fieldOff P s f = some (o, t)) (hfr : fresh H (ev F x) = true) (h : ptrAdd (ev F x) o = some v) :
    OpOk P (.fieldAddr s x f) F H v H := .still fun K C ρ oo ho hp hH hρ => by
  subst hH
  obtain ⟨fs, y, n, h1, h2, h3, h4, rfl, rfl⟩ := fieldOff_spec hf
  obtain ⟨b, o, hv, hv'⟩ := ptrAdd_ok (hρ x) h K hp (fresh_pel hfr)
  refine ⟨_, ?_, hv'⟩
  simp only [execOp, ho, hv, Instr.fieldAt, Sem.run_bind, run_underlying h1, Result.andThen_ok, h2, Instr.sureAddr, Sem.run_pure, fieldPlace, tsize_run h3, h4, if_false]
  simp [add_none]

theorem ok_field {s : TypeId} {x : Operand} {f o : Nat} {t : TypeId} {cs : List AV} {g : Bool} {n : Nat} {v : AV} (hf : fieldOff P s f = some (o, t)) (hx : ev F x = .agg cs) (hg : tagg P t = some g) (hn : tsize P t = some n)
    (hl : o + n ≤ cs.length) (hv : v = if g then .agg ((cs.drop o).take n) else (cs[o]?).getD .any) : OpOk P (.field s x f) F H v H := .still fun K C ρ oo ho hp hH hρ => by
  obtain ⟨fs, y, n', h1, h2, h3, h4, rfl, rfl⟩ := fieldOff_spec hf
  have h := hx ▸ hρ x
  generalize hr : ρ x = r at h
  cases h with
  | agg g1 g2 =>
    rename_i us
    rw [hn] at h3; cases h3
    simp only [execOp, ho, hr, Instr.field, Sem.run_bind, run_underlying h1, Result.andThen_ok, h2, asAgg, Sem.run_pure, part, tagg_run hg]
    cases g with
    | true =>
      refine ⟨.agg (us.extract y.offset (y.offset + n)), by simp [tsize_run hn], ?_⟩
      rw [hv]
      refine .agg (by simp; omega) (fun k x hx => ?_)
      have hk : k < n := by have := get_lt hx; simp at this; omega
      rw [if_pos rfl] at *
      rw [List.getElem?_take_of_lt hk, List.getElem?_drop] at hx
      have := g2 _ x hx
      have e : (us.extract y.offset (y.offset + n)).getD k undef = us.getD (y.offset + k) undef := by
        simp [Array.getElem?_extract]
        rw [if_pos (by omega)]
      rw [e]; exact this
    | false =>
      have hl' : y.offset < us.size := by omega
      refine ⟨us.getD y.offset undef, by simp [hl'], ?_⟩
      rw [hv]
      have hc : y.offset < cs.length := by omega
      simp only [Bool.false_eq_true, if_false, List.getElem?_eq_getElem hc, Option.getD_some]
      exact g2 _ _ (List.getElem?_eq_getElem hc)
end

end Go.Ab
namespace Go.Ab
open Go

def AV.isCell : AV → Bool
  | .raw v => v.oneCell'
  | .any | .agg _ | .tup _ => false
  | _ => true

/-- A part that is one cell, or a struct of cells. -/
def AV.isPart : AV → Bool
  | .agg cs => cs.all AV.isCell
  | a => a.isCell

theorem cell_one {C : Ctx} {x : AV} {v : Value} (h : Vl C x v) (hc : x.isCell = true) (hH : ∀ i ver j off, x = .pel i ver j off → fresh C.H x = true) (hs : ∀ i ver off len, x = .slo i ver off len → ∃ z es, C.H[i]? = some (.vec z ver es)) : v.oneCell' = true := by
  cases h with
  | any => simp [AV.isCell] at hc
  | raw => exact hc
  | pel hi hv hh =>
    obtain ⟨z, es, hes⟩ := fresh_pel (hH _ _ _ _ rfl) _ _ _ _ rfl
    obtain ⟨_, b, _, rfl⟩ := hh _ _ hes; rfl
  | slo hi hv hh =>
    obtain ⟨z, es, hes⟩ := hs _ _ _ _ rfl
    obtain ⟨_, rfl⟩ := hh _ _ hes; rfl
  | agg => simp [AV.isCell] at hc
  | tup => simp [AV.isCell] at hc
  | _ => rfl

/-- A cell that may be stored: what it names is up to date. -/
def AV.good (H : Heap) (x : AV) : Bool :=
  x.isCell && fresh H x && (match x with | .slo i ver _ _ => (match H[i]? with | some (.vec _ v _) => v == ver | _ => false) | _ => true)

theorem good_one {C : Ctx} {x : AV} {v : Value} (h : Vl C x v) (hg : x.good C.H = true) : v.oneCell' = true := by
  simp only [AV.good, Bool.and_eq_true] at hg
  refine cell_one h hg.1.1 (fun _ _ _ _ _ => hg.1.2) (fun i ver off len e => ?_)
  subst e
  have h2 := hg.2
  simp only [] at h2
  split at h2
  · rename_i z v es hes
    have : v = ver := by simpa using h2
    subst this
    exact ⟨z, es, hes⟩
  · cases h2

def AV.goodPart (H : Heap) (x : AV) : Bool :=
  match x with
  | .agg cs => cs.all (AV.good H)
  | a => a.good H

theorem part_cells {C : Ctx} {x : AV} {v : Value} (h : Vl C x v) (hg : x.goodPart C.H = true) :
    v.cells.size = x.cells.length ∧ (∀ k y, x.cells[k]? = some y → Vl C y (v.cells.getD k undef)) ∧ (∀ u ∈ v.cells.toList, u.oneCell' = true) := by
  have one : x.cells = [x] → x.good C.H = true → v.cells.size = x.cells.length ∧ (∀ k y, x.cells[k]? = some y → Vl C y (v.cells.getD k undef)) ∧ (∀ u ∈ v.cells.toList, u.oneCell' = true) := by
    intro h1 h2
    have h3 := good_one h h2
    have h4 : v.cells = #[v] := by cases v <;> simp [Value.oneCell'] at h3 <;> rfl
    rw [h1, h4]
    refine ⟨rfl, fun k y hy => ?_, fun u hu => by simp at hu; subst hu; exact h3⟩
    cases k with
    | zero => simp at hy; subst hy; simpa using h
    | succ k => simp at hy
  cases x with
  | agg cs =>
    cases h with
    | agg h1 h2 =>
      rename_i us
      refine ⟨h1, h2, fun u hu => ?_⟩
      obtain ⟨k, hk, rfl⟩ := List.mem_iff_getElem.1 hu
      have hk' : k < us.size := by simpa [Value.cells] using hk
      have hx := List.getElem?_eq_getElem (l := cs) (i := k) (by omega)
      have := h2 k _ hx
      simp only [AV.goodPart, List.all_eq_true] at hg
      have := good_one this (hg _ (List.getElem_mem _))
      simpa [hk', Value.cells] using this
  | _ => exact one rfl hg

def tzero (P : Program) (t : TypeId) : Option (List Value) := ((P.info? t).bind (·.zero)).map (·.cells.toList)

theorem tzero_run {P : Program} {t : TypeId} {zs : List Value} (h : tzero P t = some zs) (w : World) : ∃ z, (zeroValue t).run P w = .ok z w ∧ z.cells.toList = zs := by
  unfold tzero at h
  cases hi : P.info? t with
  | none => simp [hi] at h
  | some i =>
    cases hz : i.zero with
    | none => simp [hi, hz] at h
    | some z =>
      simp [hi, hz] at h
      exact ⟨z, by simp [zeroValue, typeInfo, hi, hz], h⟩

theorem cells_list {c : Array Value} {l : List Value} (h : c.toList = l) : c = l.toArray := by rw [← h]

theorem vl_raws {C : Ctx} {zs : List Value} {k : Nat} {x : AV} (h : (zs.map AV.raw)[k]? = some x) : Vl C x (zs.toArray.getD k undef) := by
  simp only [List.getElem?_map, Option.map_eq_some_iff] at h
  obtain ⟨y, hy, rfl⟩ := h
  have hl := get_lt hy
  have : zs.toArray.getD k undef = y := by simp [hy]
  rw [this]; exact .raw y

theorem ctx_w (C : Ctx) : ({ C with w := C.w } : Ctx) = C := rfl

section
variable {P : Program} {F : Frm} {H : Heap}

/-- A new variable. -/
theorem new_var {K : Kon} {C : Ctx} (hp : Hp K C) (t : TypeId) (c : Array Value) (cs : List AV) (hs : c.size = cs.length) (hx : ∀ k x, cs[k]? = some x → Vl C x (c.getD k undef)) :
    ∃ C', C'.w = { C.w with heap := C.w.heap.push (.cells c t) } ∧ Ext C C' ∧ Hp K C' ∧ Vl C' (.ptr C.H.length 0) (.pointer (some ⟨C.w.heap.size, 0, none⟩)) ∧ C'.H = C.H ++ [.var cs] := by
  have := hp.push { C.w with heap := C.w.heap.push (.cells c t) } (.var cs) 0 rfl rfl rfl (by simp) (fun b hb => by simp [Array.getElem?_push]; intro h; omega) _ rfl
    (fun e => ⟨C.w.heap.size, c, t, by simp, by simp, hs, fun k x hk => (hx k x hk).mono e⟩)
  exact ⟨_, rfl, this.1, this.2, .ptr ⟨cs, by simp⟩ (by simp), rfl⟩

theorem ok_box {t : TypeId} {x : Operand} (hg : (ev F x).goodPart H = true) : OpOk P (.box t x) F H (.ptr H.length 0) (H ++ [.var (ev F x).cells]) := by
  intro K C ρ oo ho hp hH hρ
  subst hH
  obtain ⟨h1, h2, _⟩ := part_cells (hρ x) hg
  obtain ⟨C', hw, e, hp', hv, hH'⟩ := new_var hp t (ρ x).cells (ev F x).cells h1 h2
  exact ⟨_, _, C', by rw [hw]; simp [execOp, ho, Instr.box, newVar, newRow], .inl rfl, e, hp', hv, hH'⟩

theorem ok_alloc {t : TypeId} {zs : List Value} (hz : tzero P t = some zs) : OpOk P (.alloc t) F H (.ptr H.length 0) (H ++ [.var (zs.map .raw)]) := by
  intro K C ρ oo ho hp hH hρ
  subst hH
  obtain ⟨z, h1, h2⟩ := tzero_run (P := P) hz C.w
  obtain ⟨C', hw, e, hp', hv, hH'⟩ := new_var hp t z.cells (zs.map .raw) (by rw [cells_list h2]; simp) (fun k x hx => by rw [cells_list h2]; exact vl_raws hx)
  exact ⟨_, _, C', by rw [hw]; simp [execOp, ho, Instr.alloc, newVar, newRow, h1], .inl rfl, e, hp', hv, hH'⟩

def sliceElem (P : Program) (t : TypeId) : Option TypeId := match P.underlying t with | some (.slice e) => some e | _ => none
theorem sliceElem_spec {t e : TypeId} (h : sliceElem P t = some e) : P.underlying t = some (.slice e) := by
  unfold sliceElem at h; split at h <;> simp at h; subst h; assumption

theorem cells_of_at {C : Ctx} {es : List AV} {z j : Nat} {v : AV} (hs : ∀ e ∈ es, e.cells.length = z) (hj : es[j]? = some v) :
    ∀ k x, v.cells[k]? = some x → (flat es)[j * z + k]? = some x := fun k x hx => by
  have := hs v (List.mem_of_getElem? hj)
  rw [flat_get hs hj (by have := get_lt hx; omega)]; exact hx

theorem ok_indexAddr_sl {t e : TypeId} {x i : Operand} {z : Nat} {b : Fl} {es : List AV} {k : IntKind} {j : Int} {v : AV} (ht : sliceElem P t = some e) (hz : tsize P e = some z)
    (hx : ev F x = .sl z b es) (hi : ev F i = .raw (.int k j)) (h0 : 0 ≤ j) (hv : es[j.toNat]? = some v) : OpOk P (.indexAddr t x i) F H (.rp v.cells) H := .still fun K C ρ oo ho hp hH hρ => by
  have hj : ρ i = .int k j := Vl.raw_inv (hi ▸ hρ i)
  have h := hx ▸ hρ x
  generalize hr : ρ x = r at h
  cases h with
  | sl g hz' hcap hfull hn hs ha hL hx' =>
    rename_i a cap
    have hjl := get_lt hv
    have hne : es ≠ [] := by intro h; subst h; simp at hv
    have ht' := sliceElem_spec ht
    cases a with
    | none => have := hn rfl; have := List.length_pos_iff.2 hne; omega
    | some ad =>
      obtain ⟨h1, h2, h3⟩ := ha ad rfl hne
      obtain ⟨bl, off, spot⟩ := ad
      simp only at h1 h2 h3
      subst h1
      have hm : j.toNat * z + z ≤ es.length * z := by rw [← Nat.succ_mul]; exact Nat.mul_le_mul_right z hjl
      refine ⟨.pointer (some ⟨bl, off + j.toNat * z, none⟩), ?_, .rp (fun k => g (j.toNat * z + k)) h2 ?_ (fun k hk => ?_) (fun k x hk => hx' _ x (cells_of_at (C := C) hs hv k x hk))⟩
      · have hlt : j < (es.length : Int) := by omega
        simp only [execOp, ho, hr, hj, Instr.indexAt, asIntOf, Sem.run_bind, Sem.run_pure, Result.andThen_ok, run_underlying ht', tsize_run hz, h0, hlt, and_self, if_true, add_none]
      · have := h3 0 (by omega)
        unfold World.cell? at this
        split at this
        · exact ⟨_, _, _, by assumption⟩
        · cases this
      · rw [Nat.add_assoc]
        have := hs v (List.mem_of_getElem? hv)
        exact h3 _ (by omega)

theorem ok_indexAddr_slo {t e : TypeId} {x i : Operand} {z n ver off len : Nat} {es : List AV} {k : IntKind} {j : Int} (ht : sliceElem P t = some e) (hz : tsize P e = some z)
    (hx : ev F x = .slo n ver off len) (hn : H[n]? = some (.vec z ver es)) (hi : ev F i = .raw (.int k j)) (h0 : 0 ≤ j) (hj : j < len) : OpOk P (.indexAddr t x i) F H (.pel n ver (off + j.toNat) 0) H := .still fun K C ρ oo ho hp hH hρ => by
  subst hH
  have hj' : ρ i = .int k j := Vl.raw_inv (hi ▸ hρ i)
  have h := hx ▸ hρ x
  generalize hr : ρ x = r at h
  cases h with
  | slo hi' hv hh =>
    obtain ⟨hl, rfl⟩ := hh _ _ hn
    have ht' := sliceElem_spec ht
    obtain ⟨g0, g1, g2, g3⟩ := hp.obj n _ hn
    rcases g3 with ⟨_, g3⟩ | ⟨b, c, tt, g4, g5, g6, g7⟩
    · omega
    refine ⟨.pointer (some ⟨b, (off + j.toNat) * z + 0, none⟩), ?_, .pel hi' hv (fun z' es' hes' => ?_)⟩
    · have hlt : j < (len : Int) := by omega
      simp only [execOp, ho, hr, hj', Instr.indexAt, asIntOf, Sem.run_bind, Sem.run_pure, Result.andThen_ok, run_underlying ht', tsize_run hz, h0, hlt, and_self, if_true, g4, Option.map_some, add_none]
      simp [Nat.add_mul]
    · rw [hn] at hes'; cases hes'
      exact ⟨by omega, b, g4, by simp⟩

/-- How long it is. -/
def lenAV (H : Heap) : AV → Option Nat
  | .sl _ _ es => some es.length
  | .slb _ n _ => some n
  | .slo i ver _ len => match H[i]? with | some (.vec _ v _) => if v = ver then some len else none | _ => none
  | .raw (.slice none 0 0) => some 0
  | .raw (.string s) => some s.size
  | .raw (.map none) => some 0
  | .mp i => match H[i]? with | some (.mapo es) => some es.length | _ => none
  | .pm es => some es.length
  | _ => none

def lenTy (P : Program) (t : TypeId) : Option Nat := match P.underlying t with | some (.slice _) => some 0 | some .string => some 1 | some (.map _ _) => some 2 | _ => none
def lenKind : AV → Nat
  | .sl .. | .slb .. | .slo .. | .raw (.slice ..) => 0
  | .raw (.string _) => 1
  | _ => 2

theorem ok_len {t : TypeId} {ty : Array TypeId} {x : Operand} {n : Nat} (hl : lenAV H (ev F x) = some n) (ht : lenTy P t = some (lenKind (ev F x))) :
    OpOk P (.call { callee := .builtin .len, args := #[x], argTypes := #[t] }) F H (.raw (.int .i64 n)) H := .still fun K C ρ oo ho hp hH hρ => by
  subst hH
  refine ⟨.int .i64 n, ?_, .raw _⟩
  have h := hρ x
  have key : ∀ u, Vl C (ev F x) u → (Builtin.len_ #[t] oo.type #[u]).run P C.w = .ok (.int .i64 n) C.w := by
    intro u hu
    generalize ev F x = av at hu hl ht
    have tS : lenKind av = 0 → ∃ e, P.underlying t = some (.slice e) := fun h0 => by
      rw [h0] at ht; unfold lenTy at ht; split at ht <;> simp at ht; exact ⟨_, by assumption⟩
    have tM : lenKind av = 2 → ∃ e e', P.underlying t = some (.map e e') := fun h0 => by
      rw [h0] at ht; unfold lenTy at ht; split at ht <;> simp at ht; exact ⟨_, _, by assumption⟩
    have tT : lenKind av = 1 → P.underlying t = some .string := fun h0 => by
      rw [h0] at ht; unfold lenTy at ht; split at ht <;> simp at ht; assumption
    cases hu with
    | raw =>
      cases u with
      | slice a l c =>
        cases a with
        | some a => simp [lenAV] at hl
        | none =>
          obtain ⟨e, he⟩ := tS rfl
          cases l with
          | succ l => simp [lenAV] at hl
          | zero => cases c with
            | succ c => simp [lenAV] at hl
            | zero => simp [lenAV] at hl; subst hl; simp [Builtin.len_, run_underlying he, goInt]
      | string s => simp [lenAV] at hl; subst hl; simp [Builtin.len_, run_underlying (tT rfl), goInt]
      | map r =>
        cases r with
        | some r => simp [lenAV] at hl
        | none => obtain ⟨e, e', he⟩ := tM rfl; simp [lenAV] at hl; subst hl; simp [Builtin.len_, run_underlying he, goInt]
      | _ => simp [lenAV] at hl
    | sl g hz' hcap hfull hn hs ha hL hx' => obtain ⟨e, he⟩ := tS rfl; simp [lenAV] at hl; subst hl; simp [Builtin.len_, run_underlying he, goInt]
    | slb g hz' hle hcap hn hs ha hx' => obtain ⟨e, he⟩ := tS rfl; simp [lenAV] at hl; subst hl; simp [Builtin.len_, run_underlying he, goInt]
    | slo hi hv hh =>
      obtain ⟨e, he⟩ := tS rfl
      simp only [lenAV] at hl
      split at hl
      · rename_i z v es hes
        split at hl <;> simp at hl
        rename_i hver; subst hver; subst hl
        obtain ⟨_, rfl⟩ := hh _ _ hes
        simp [Builtin.len_, run_underlying he, goInt]
      · cases hl
    | mp hh hb =>
      obtain ⟨e, e', he⟩ := tM rfl
      obtain ⟨es, hes⟩ := hh
      simp [lenAV, hes] at hl; subst hl
      obtain ⟨b, ents, clock, g1, g2, g3, _⟩ := hp.obj _ _ hes
      rw [hb] at g1; cases g1
      simp [Builtin.len_, run_underlying he, goInt, getObj, Sem.run, g2, g3]
    | pm hb hL hm hs hk hv =>
      obtain ⟨e, e', he⟩ := tM rfl
      simp [lenAV] at hl; subst hl
      simp [Builtin.len_, run_underlying he, goInt, getObj, Sem.run, hm, hs]
    | _ => simp [lenAV] at hl
  simp only [execOp, ho, resolve, Sem.run_bind, Sem.run_pure, Result.andThen_ok, invoke, builtin]
  simp only [List.map_toArray, List.map_cons, List.map_nil]
  rw [key _ h]; rfl

end

end Go.Ab
