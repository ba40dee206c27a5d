/- A program logic over the model: contracts of calls, proved from the model alone, without conditions. -/
import Derived.RangeFuncLeaves
import Derived.Laws.NewBlocks
import Derived.RowKit3
set_option linter.unusedSimpArgs false
set_option linter.unusedVariables false
namespace Go.Ab
open Go

/-- Abstract values: data by value, own memory by number. -/
inductive AV where
  | any
  | raw (v : Value)
  | ptr (i off : Nat)
  | pel (i ver j off : Nat)
  | rp (cs : List AV)
  | sl (z : Nat) (full : Bool) (es : List AV)
  | slb (z n : Nat) (es : List AV)
  | slo (i ver off len : Nat)
  | mp (i : Nat)
  | pm (es : List (AV × AV))
  | fn (f : FuncId) (first caps : List AV)
  | yl (i : Nat)
  | agg (cs : List AV)
  | tup (vs : List AV)

instance : Inhabited AV := ⟨.any⟩

abbrev Frm := List (Nat × AV)

/-- The record of a range over a function. -/
structure LoopA where
  state : LoopState
  pending : Option Code
  F : Frm
  N : Nat
  params : Array Tmp
  assign : Code
  body : Code

/-- Own memory. -/
inductive AObj where
  | var (cs : List AV)
  | vec (z ver : Nat) (es : List AV)
  | mapo (es : List (AV × AV))
  | loopo (l : LoopA)
  | dead

abbrev Heap := List AObj

def AV.cells : AV → List AV
  | .agg cs => cs
  | a => [a]

def flat (es : List AV) : List AV := es.flatMap AV.cells

structure Ctx where
  w : World
  X : Nat → Prop
  H : Heap
  β : Nat → Option Nat
  κ : Nat → Nat

def Ctx.own (C : Ctx) (b : Nat) : Prop := ∃ i, i < C.H.length ∧ C.β i = some b
def Ctx.bad (C : Ctx) (b : Nat) : Prop := C.X b ∨ C.own b

/-- What a value is, as data. -/
inductive Vl (C : Ctx) : AV → Value → Prop
  | any (v : Value) : Vl C .any v
  | raw (v : Value) : Vl C (.raw v) v
  | ptr {i off b : Nat} (h : ∃ cs, C.H[i]? = some (.var cs)) (hb : C.β i = some b) : Vl C (.ptr i off) (.pointer (some ⟨b, off, none⟩))
  | pel {i ver j off : Nat} {v : Value} (hi : i < C.H.length) (hv : ∀ z v0 es, C.H[i]? = some (.vec z v0 es) → ver ≤ v0)
      (h : ∀ z es, C.H[i]? = some (.vec z ver es) → j < es.length ∧ ∃ b, C.β i = some b ∧ v = .pointer (some ⟨b, j * z + off, none⟩)) : Vl C (.pel i ver j off) v
  | rp {cs : List AV} {b off : Nat} (g : Nat → Value) (hb : ¬ C.bad b) (hs : ∃ c e f, C.w.heap[b]? = some (.cells c e f)) (hc : ∀ k, k < cs.length → C.w.cell? ⟨b, off + k, none⟩ = some (g k))
      (hx : ∀ k x, cs[k]? = some x → Vl C x (g k)) : Vl C (.rp cs) (.pointer (some ⟨b, off, none⟩))
  | sl {z : Nat} {full : Bool} {es : List AV} {a : Option Addr} {cap : Nat} (g : Nat → Value) (hz : 0 < z) (hcap : es.length ≤ cap) (hfull : full = true → cap = es.length)
      (hn : a = none → cap = 0) (hs : ∀ e ∈ es, e.cells.length = z)
      (ha : ∀ x, a = some x → es ≠ [] → x.spot = none ∧ ¬ C.bad x.block ∧ ∀ k, k < es.length * z → C.w.cell? ⟨x.block, x.off + k, none⟩ = some (g k))
      (hx : ∀ k x, (flat es)[k]? = some x → Vl C x (g k)) : Vl C (.sl z full es) (.slice a es.length cap)
  | slb {z n : Nat} {es : List AV} {a : Option Addr} {cap : Nat} (g : Nat → Value) (hz : 0 < z) (hle : n ≤ es.length) (hcap : es.length ≤ cap)
      (hn : a = none → cap = 0) (hs : ∀ e ∈ es, e.cells.length = z)
      (ha : ∀ x, a = some x → es ≠ [] → x.spot = none ∧ ¬ C.bad x.block ∧ ∀ k, k < es.length * z → C.w.cell? ⟨x.block, x.off + k, none⟩ = some (g k))
      (hx : ∀ k x, (flat es)[k]? = some x → Vl C x (g k)) : Vl C (.slb z n es) (.slice a n cap)
  | slo {i ver off len : Nat} {v : Value} (hi : i < C.H.length) (hv : ∀ z v0 es, C.H[i]? = some (.vec z v0 es) → ver ≤ v0)
      (h : ∀ z es, C.H[i]? = some (.vec z ver es) → off + len ≤ es.length ∧ v = .slice ((C.β i).map fun b => ⟨b, off * z, none⟩) len (C.κ i - off)) : Vl C (.slo i ver off len) v
  | mp {i b : Nat} (h : ∃ es, C.H[i]? = some (.mapo es)) (hb : C.β i = some b) : Vl C (.mp i) (.map (some b))
  | pm {es : List (AV × AV)} {b clock : Nat} {ents : Array MapEntry} (hb : ¬ C.bad b) (hm : C.w.heap[b]? = some (.map ents clock)) (hs : ents.size = es.length)
      (hk : ∀ k e, es[k]? = some e → Vl C e.1 (ents.getD k default).key) (hv : ∀ k e, es[k]? = some e → Vl C e.2 (ents.getD k default).val) : Vl C (.pm es) (.map (some b))
  | fn {f : FuncId} {first caps : List AV} {fv cv : Array Value} (h1 : fv.size = first.length) (h2 : cv.size = caps.length)
      (hf : ∀ k x, first[k]? = some x → Vl C x (fv.getD k undef)) (hc : ∀ k x, caps[k]? = some x → Vl C x (cv.getD k undef)) : Vl C (.fn f first caps) (.func (.func f) fv cv)
  | yl {i b : Nat} (h : ∃ l, C.H[i]? = some (.loopo l)) (hb : C.β i = some b) : Vl C (.yl i) (.func (.yield b) #[] #[])
  | agg {cs : List AV} {vs : Array Value} (h : vs.size = cs.length) (hx : ∀ k x, cs[k]? = some x → Vl C x (vs.getD k undef)) : Vl C (.agg cs) (.agg vs)
  | tup {cs : List AV} {vs : Array Value} (h : vs.size = cs.length) (hx : ∀ k x, cs[k]? = some x → Vl C x (vs.getD k undef)) : Vl C (.tup cs) (.tuple vs)

/-- From one state to a later one: what was told stays told. -/
structure Ext (C C' : Ctx) : Prop where
  len : C.H.length ≤ C'.H.length
  pers : ∀ b, ¬ C.bad b → b < C.w.heap.size → C'.w.heap[b]? = C.w.heap[b]? ∧ ¬ C'.bad b
  var : ∀ i cs, C.H[i]? = some (.var cs) → (∃ cs', C'.H[i]? = some (.var cs')) ∧ C'.β i = C.β i
  mapo : ∀ i es, C.H[i]? = some (.mapo es) → (∃ es', C'.H[i]? = some (.mapo es')) ∧ C'.β i = C.β i
  loopo : ∀ i l, C.H[i]? = some (.loopo l) → (∃ l', C'.H[i]? = some (.loopo l')) ∧ C'.β i = C.β i
  vec : ∀ i z v' es', i < C.H.length → C'.H[i]? = some (.vec z v' es') →
    ∃ v0 es, C.H[i]? = some (.vec z v0 es) ∧ v0 ≤ v' ∧ (v0 = v' → es.length ≤ es'.length ∧ C'.β i = C.β i ∧ C'.κ i = C.κ i)

/-- The same, whatever becomes of blocks for deferred calls. -/
structure ExtW (C C' : Ctx) : Prop where
  len : C.H.length ≤ C'.H.length
  pers : ∀ b, ¬ C.bad b → b < C.w.heap.size → (∀ ds, C.w.heap[b]? ≠ some (.deferred ds)) → C'.w.heap[b]? = C.w.heap[b]? ∧ ¬ C'.bad b
  var : ∀ i cs, C.H[i]? = some (.var cs) → (∃ cs', C'.H[i]? = some (.var cs')) ∧ C'.β i = C.β i
  mapo : ∀ i es, C.H[i]? = some (.mapo es) → (∃ es', C'.H[i]? = some (.mapo es')) ∧ C'.β i = C.β i
  loopo : ∀ i l, C.H[i]? = some (.loopo l) → (∃ l', C'.H[i]? = some (.loopo l')) ∧ C'.β i = C.β i
  vec : ∀ i z v' es', i < C.H.length → C'.H[i]? = some (.vec z v' es') →
    ∃ v0 es, C.H[i]? = some (.vec z v0 es) ∧ v0 ≤ v' ∧ (v0 = v' → es.length ≤ es'.length ∧ C'.β i = C.β i ∧ C'.κ i = C.κ i)

theorem Ext.toW {C C' : Ctx} (e : Ext C C') : ExtW C C' :=
  ⟨e.len, fun b h1 h2 _ => e.pers b h1 h2, e.var, e.mapo, e.loopo, e.vec⟩

theorem Ext.refl (C : Ctx) : Ext C C where
  len := Nat.le_refl _
  pers := fun _ h _ => ⟨rfl, h⟩
  var := fun _ cs h => ⟨⟨cs, h⟩, rfl⟩
  mapo := fun _ cs h => ⟨⟨cs, h⟩, rfl⟩
  loopo := fun _ cs h => ⟨⟨cs, h⟩, rfl⟩
  vec := fun _ _ v' es' _ h => ⟨v', es', h, Nat.le_refl _, fun _ => ⟨Nat.le_refl _, rfl, rfl⟩⟩

theorem cell?_lt {w : World} {a : Addr} {v : Value} (h : w.cell? a = some v) : a.block < w.heap.size := by
  unfold World.cell? at h
  rcases Nat.lt_or_ge a.block w.heap.size with h' | h'
  · exact h'
  · rw [Array.getElem?_eq_none h'] at h; cases h

theorem cell?_data {w : World} {a : Addr} {v : Value} (h : w.cell? a = some v) (ds : Option (List Deferred)) : w.heap[a.block]? ≠ some (.deferred ds) := fun hh => by
  unfold World.cell? at h
  rw [hh] at h; cases h

theorem cell?_same {w w' : World} {a : Addr} (h : w'.heap[a.block]? = w.heap[a.block]?) : w'.cell? a = w.cell? a := by
  unfold World.cell?; rw [h]

theorem heap_lt {w : World} {b : Nat} {o : Obj} (h : w.heap[b]? = some o) : b < w.heap.size := by
  rcases Nat.lt_or_ge b w.heap.size with h' | h'
  · exact h'
  · rw [Array.getElem?_eq_none h'] at h; cases h

theorem Vl.monoW {C C' : Ctx} (e : ExtW C C') {x : AV} {v : Value} (h : Vl C x v) : Vl C' x v := by
  induction h with
  | any v => exact .any v
  | raw v => exact .raw v
  | ptr h hb => obtain ⟨cs, h⟩ := h; have := e.var _ _ h; exact .ptr this.1 (this.2.trans hb)
  | pel hi hv h =>
    refine .pel (Nat.lt_of_lt_of_le hi e.len) (fun z v0 es hh => ?_) (fun z es hh => ?_)
    · obtain ⟨v1, es1, h1, h2, _⟩ := e.vec _ _ _ _ hi hh
      exact Nat.le_trans (hv _ _ _ h1) h2
    · obtain ⟨v1, es1, h1, h2, h3⟩ := e.vec _ _ _ _ hi hh
      have := hv _ _ _ h1
      have : v1 = _ := Nat.le_antisymm h2 this
      subst this
      obtain ⟨hj, b, hb, hv⟩ := h _ _ h1
      exact ⟨Nat.lt_of_lt_of_le hj (h3 rfl).1, b, (h3 rfl).2.1.trans hb, hv⟩
  | rp g hb hs hc hx ih =>
    obtain ⟨c, t, f, hs⟩ := hs
    have := e.pers _ hb (heap_lt hs) (fun ds hh => by rw [hs] at hh; cases hh)
    exact .rp g this.2 ⟨c, t, f, this.1.trans hs⟩ (fun k hk => (cell?_same (this.1)).trans (hc k hk)) ih
  | sl g hz hcap hfull hn hs ha hx ih =>
    refine .sl g hz hcap hfull hn hs (fun x hxa hne => ?_) ih
    obtain ⟨h1, h2, h3⟩ := ha x hxa hne
    have hl : 0 < _ := Nat.mul_pos (List.length_pos_iff.2 hne) hz
    have hlt : x.block < C.w.heap.size := cell?_lt (a := ⟨x.block, x.off + 0, none⟩) (h3 0 hl)
    have := e.pers _ h2 hlt (cell?_data (a := ⟨x.block, x.off + 0, none⟩) (h3 0 hl))
    exact ⟨h1, this.2, fun k hk => (cell?_same (a := ⟨x.block, x.off + k, none⟩) (this.1)).trans (h3 k hk)⟩
  | slb g hz hle hcap hn hs ha hx ih =>
    refine .slb g hz hle hcap hn hs (fun x hxa hne => ?_) ih
    obtain ⟨h1, h2, h3⟩ := ha x hxa hne
    have hl : 0 < _ := Nat.mul_pos (List.length_pos_iff.2 hne) hz
    have hlt : x.block < C.w.heap.size := cell?_lt (a := ⟨x.block, x.off + 0, none⟩) (h3 0 hl)
    have := e.pers _ h2 hlt (cell?_data (a := ⟨x.block, x.off + 0, none⟩) (h3 0 hl))
    exact ⟨h1, this.2, fun k hk => (cell?_same (a := ⟨x.block, x.off + k, none⟩) (this.1)).trans (h3 k hk)⟩
  | slo hi hv h =>
    refine .slo (Nat.lt_of_lt_of_le hi e.len) (fun z v0 es hh => ?_) (fun z es hh => ?_)
    · obtain ⟨v1, es1, h1, h2, _⟩ := e.vec _ _ _ _ hi hh
      exact Nat.le_trans (hv _ _ _ h1) h2
    · obtain ⟨v1, es1, h1, h2, h3⟩ := e.vec _ _ _ _ hi hh
      have := hv _ _ _ h1
      have : v1 = _ := Nat.le_antisymm h2 this
      subst this
      obtain ⟨hlen, hv⟩ := h _ _ h1
      obtain ⟨e1, e2, e3⟩ := h3 rfl
      exact ⟨Nat.le_trans hlen e1, by rw [e2, e3]; exact hv⟩
  | mp h hb => obtain ⟨cs, h⟩ := h; have := e.mapo _ _ h; exact .mp this.1 (this.2.trans hb)
  | pm hb hm hs hk hv ihk ihv =>
    have := e.pers _ hb (heap_lt hm) (fun ds hh => by rw [hm] at hh; cases hh)
    exact .pm this.2 (this.1.trans hm) hs ihk ihv
  | fn h1 h2 hf hc ihf ihc => exact .fn h1 h2 ihf ihc
  | yl h hb => obtain ⟨cs, h⟩ := h; have := e.loopo _ _ h; exact .yl this.1 (this.2.trans hb)
  | agg h hx ih => exact .agg h ih
  | tup h hx ih => exact .tup h ih

theorem Vl.mono {C C' : Ctx} (e : Ext C C') {x : AV} {v : Value} (h : Vl C x v) : Vl C' x v := h.monoW e.toW

end Go.Ab
