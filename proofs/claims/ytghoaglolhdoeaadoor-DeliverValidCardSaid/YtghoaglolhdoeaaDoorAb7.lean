/- A program logic over the model: contracts of calls, proved from the model alone, without conditions. -/
import Derived.Test.YtghoaglolhdoeaaDoorAb6
set_option linter.unusedSimpArgs false
set_option linter.unusedVariables false
namespace Go.Ab
open Go

/-- What a caller needs of a call. -/
def CallS (P : Program) (G : List (Nat × List Value)) (f : FuncId) (args : List AV) (H : Heap) (R : AV → Heap → Prop) : Prop :=
  ∀ (K : Kon) (C : Ctx) (vs : Array Value), K.G = G → C.H = H → Hp K C → ArgsOk C args vs →
    CallsIn Fence.wide 0 P f vs C.w (fun e w' => ∃ r v C', e = .returned v ∧ C'.w = w' ∧ Ext C C' ∧ Hp K C' ∧ Vl C' r v ∧ R r C'.H)

theorem CallS.mono {P : Program} {G : List (Nat × List Value)} {f : FuncId} {args : List AV} {H : Heap} {R R' : AV → Heap → Prop} (h : CallS P G f args H R)
    (hr : ∀ r H', R r H' → R' r H') : CallS P G f args H R' :=
  fun K C vs h1 h2 h3 h4 => (h K C vs h1 h2 h3 h4).mono fun e w' ⟨r, v, C', a, b, c, d, g, k⟩ => ⟨r, v, C', a, b, c, d, g, hr _ _ k⟩

theorem Hp.base {K : Kon} {C : Ctx} (h : Hp K C) : Hp ⟨C, K.G, none⟩ C where
  X := rfl
  xown := h.xown
  xlt := fun b hb => Nat.lt_of_lt_of_le (h.xlt b hb) h.size
  inj := h.inj
  lt := h.lt
  obj := h.obj
  ext := Ext.refl C
  os := rfl
  tape := rfl
  output := rfl
  size := Nat.le_refl _
  same := fun _ _ _ => rfl
  ownn := fun _ hb => .inl hb
  glob := h.glob

theorem Hp.comp {K : Kon} {C C' : Ctx} (h : Hp K C) {rb : Option Nat} (h' : Hp ⟨C, K.G, rb⟩ C') : Hp K C' where
  X := h'.X.trans h.X
  xown := h'.xown
  xlt := fun b hb => h.xlt b (by rw [← show C'.X = C.X from h'.X]; exact hb)
  inj := h'.inj
  lt := h'.lt
  obj := h'.obj
  ext := h.ext.trans h'.ext
  os := h'.os.trans h.os
  tape := h'.tape.trans h.tape
  output := h'.output.trans h.output
  size := Nat.le_trans h.size h'.size
  same := fun b hb hn => (h'.same b (Nat.lt_of_lt_of_le hb h.size) (fun ho => (h.ownn b ho).elim hn (fun hh => by omega))).trans (h.same b hb hn)
  ownn := fun b hb => (h'.ownn b hb).elim (h.ownn b) (fun hh => .inr (Nat.le_trans h.size hh))
  glob := h'.glob

theorem ACall.calls {P : Program} {G : List (Nat × List Value)} {f : FuncId} {args : List AV} {H : Heap} {R : AV → Heap → Prop} (h : ACall P G f args H R) : CallS P G f args H R := by
  intro K C vs hG hH hp ha
  refine (h C vs hH (by rw [← hG]; exact hp.base) ha).mono ?_
  rintro e w' ⟨r, v, C', a, b, c, d, g⟩
  rw [← hG] at c
  exact ⟨r, v, C', a, b, c.ext, hp.comp c, d, g⟩

/-- Data without own memory in it. -/
inductive Pur : AV → Prop
  | any : Pur .any
  | raw (v : Value) : Pur (.raw v)
  | rp {cs : List AV} (h : ∀ x ∈ cs, Pur x) : Pur (.rp cs)
  | sl {z : Nat} {full : Bool} {es : List AV} (h : ∀ x ∈ es, Pur x) : Pur (.sl z full es)
  | slb {z n : Nat} {es : List AV} (h : ∀ x ∈ es, Pur x) : Pur (.slb z n es)
  | pm {es : List (AV × AV)} (h : ∀ x ∈ es, Pur x.1) (h' : ∀ x ∈ es, Pur x.2) : Pur (.pm es)
  | fn {f : FuncId} {a b : List AV} (h : ∀ x ∈ a, Pur x) (h' : ∀ x ∈ b, Pur x) : Pur (.fn f a b)
  | agg {cs : List AV} (h : ∀ x ∈ cs, Pur x) : Pur (.agg cs)
  | tup {cs : List AV} (h : ∀ x ∈ cs, Pur x) : Pur (.tup cs)

@[simp] theorem pur_any : Pur .any ↔ True := ⟨fun _ => trivial, fun _ => .any⟩
@[simp] theorem pur_raw (v : Value) : Pur (.raw v) ↔ True := ⟨fun _ => trivial, fun _ => .raw v⟩
@[simp] theorem pur_rp (cs : List AV) : Pur (.rp cs) ↔ ∀ x ∈ cs, Pur x := ⟨fun h => by cases h; assumption, .rp⟩
@[simp] theorem pur_sl (z : Nat) (b : Bool) (cs : List AV) : Pur (.sl z b cs) ↔ ∀ x ∈ cs, Pur x := ⟨fun h => by cases h; assumption, .sl⟩
@[simp] theorem pur_slb (z n : Nat) (cs : List AV) : Pur (.slb z n cs) ↔ ∀ x ∈ cs, Pur x := ⟨fun h => by cases h; assumption, .slb⟩
@[simp] theorem pur_agg (cs : List AV) : Pur (.agg cs) ↔ ∀ x ∈ cs, Pur x := ⟨fun h => by cases h; assumption, .agg⟩
@[simp] theorem pur_tup (cs : List AV) : Pur (.tup cs) ↔ ∀ x ∈ cs, Pur x := ⟨fun h => by cases h; assumption, .tup⟩
@[simp] theorem pur_fn (f : FuncId) (a b : List AV) : Pur (.fn f a b) ↔ (∀ x ∈ a, Pur x) ∧ (∀ x ∈ b, Pur x) := ⟨fun h => by cases h; exact ⟨by assumption, by assumption⟩, fun h => .fn h.1 h.2⟩
@[simp] theorem pur_pm (es : List (AV × AV)) : Pur (.pm es) ↔ (∀ x ∈ es, Pur x.1) ∧ (∀ x ∈ es, Pur x.2) := ⟨fun h => by cases h; exact ⟨by assumption, by assumption⟩, fun h => .pm h.1 h.2⟩
@[simp] theorem pur_ptr (i o : Nat) : Pur (.ptr i o) ↔ False := ⟨(fun h => nomatch h), False.elim⟩
@[simp] theorem pur_pel (i v j o : Nat) : Pur (.pel i v j o) ↔ False := ⟨(fun h => nomatch h), False.elim⟩
@[simp] theorem pur_slo (i v o l : Nat) : Pur (.slo i v o l) ↔ False := ⟨(fun h => nomatch h), False.elim⟩
@[simp] theorem pur_mp (i : Nat) : Pur (.mp i) ↔ False := ⟨(fun h => nomatch h), False.elim⟩
@[simp] theorem pur_yl (i : Nat) : Pur (.yl i) ↔ False := ⟨(fun h => nomatch h), False.elim⟩

/-- Data that lead to no memory at all. -/
inductive Flt : AV → Prop
  | any : Flt .any
  | raw (v : Value) : Flt (.raw v)
  | fn {f : FuncId} {a b : List AV} (h : ∀ x ∈ a, Flt x) (h' : ∀ x ∈ b, Flt x) : Flt (.fn f a b)
  | agg {cs : List AV} (h : ∀ x ∈ cs, Flt x) : Flt (.agg cs)
  | tup {cs : List AV} (h : ∀ x ∈ cs, Flt x) : Flt (.tup cs)

@[simp] theorem flt_any : Flt .any ↔ True := ⟨fun _ => trivial, fun _ => .any⟩
@[simp] theorem flt_raw (v : Value) : Flt (.raw v) ↔ True := ⟨fun _ => trivial, fun _ => .raw v⟩
@[simp] theorem flt_agg (cs : List AV) : Flt (.agg cs) ↔ ∀ x ∈ cs, Flt x := ⟨fun h => by cases h; assumption, .agg⟩
@[simp] theorem flt_tup (cs : List AV) : Flt (.tup cs) ↔ ∀ x ∈ cs, Flt x := ⟨fun h => by cases h; assumption, .tup⟩
@[simp] theorem flt_fn (f : FuncId) (a b : List AV) : Flt (.fn f a b) ↔ (∀ x ∈ a, Flt x) ∧ (∀ x ∈ b, Flt x) := ⟨fun h => by cases h; exact ⟨by assumption, by assumption⟩, fun h => .fn h.1 h.2⟩

theorem mem_get {α : Type} {l : List α} {k : Nat} {x : α} (h : l[k]? = some x) : x ∈ l := List.mem_of_getElem? h

theorem Pur.rs {H : Heap} {keep : Nat → Prop} {x : AV} (h : Pur x) : Rs H keep x x := by
  induction h with
  | any => exact .any _
  | raw v => exact .raw v
  | rp h ih => exact .rp rfl (fun k x x' h1 h2 => by rw [h1] at h2; cases h2; exact ih _ (mem_get h1))
  | sl h ih => exact .sl id rfl (fun k x x' h1 h2 => by rw [h1] at h2; cases h2; rfl) (fun k x x' h1 h2 => by rw [h1] at h2; cases h2; exact ih _ (mem_get h1))
  | slb h ih => exact .slb rfl (fun k x x' h1 h2 => by rw [h1] at h2; cases h2; rfl) (fun k x x' h1 h2 => by rw [h1] at h2; cases h2; exact ih _ (mem_get h1))
  | pm h h' ih ih' => exact .pm rfl (fun k x x' h1 h2 => by rw [h1] at h2; cases h2; exact ih _ (mem_get h1)) (fun k x x' h1 h2 => by rw [h1] at h2; cases h2; exact ih' _ (mem_get h1))
  | fn h h' ih ih' => exact .fn rfl rfl (fun k x x' h1 h2 => by rw [h1] at h2; cases h2; exact ih _ (mem_get h1)) (fun k x x' h1 h2 => by rw [h1] at h2; cases h2; exact ih' _ (mem_get h1))
  | agg h ih => exact .agg rfl (fun k x x' h1 h2 => by rw [h1] at h2; cases h2; exact ih _ (mem_get h1))
  | tup h ih => exact .tup rfl (fun k x x' h1 h2 => by rw [h1] at h2; cases h2; exact ih _ (mem_get h1))

theorem Flt.rs {H : Heap} {keep : Nat → Prop} {x : AV} (h : Flt x) : Rs H keep x x := by
  induction h with
  | any => exact .any _
  | raw v => exact .raw v
  | fn h h' ih ih' => exact .fn rfl rfl (fun k x x' h1 h2 => by rw [h1] at h2; cases h2; exact ih _ (mem_get h1)) (fun k x x' h1 h2 => by rw [h1] at h2; cases h2; exact ih' _ (mem_get h1))
  | agg h ih => exact .agg rfl (fun k x x' h1 h2 => by rw [h1] at h2; cases h2; exact ih _ (mem_get h1))
  | tup h ih => exact .tup rfl (fun k x x' h1 h2 => by rw [h1] at h2; cases h2; exact ih _ (mem_get h1))

theorem Flt.vl {C C' : Ctx} {x : AV} (h : Flt x) : ∀ v, Vl C x v → Vl C' x v := by
  induction h with
  | any => exact fun v _ => .any v
  | raw v => intro u hu; cases hu; exact .raw v
  | fn h h' ih ih' => intro u hu; cases hu with
    | fn h1 h2 h3 h4 => exact .fn h1 h2 (fun k x hx => ih x (mem_get hx) _ (h3 k x hx)) (fun k x hx => ih' x (mem_get hx) _ (h4 k x hx))
  | agg h ih => intro u hu; cases hu with
    | agg h1 h2 => exact .agg h1 (fun k x hx => ih x (mem_get hx) _ (h2 k x hx))
  | tup h ih => intro u hu; cases hu with
    | tup h1 h2 => exact .tup h1 (fun k x hx => ih x (mem_get hx) _ (h2 k x hx))

/-- Pure data, told with other memory out of bounds. -/
theorem Pur.vl {C C' : Ctx} (hw : C'.w = C.w) (hb : ∀ b, ¬ C.bad b → ¬ C'.bad b) {x : AV} (h : Pur x) : ∀ v, Vl C x v → Vl C' x v := by
  induction h with
  | any => exact fun v _ => .any v
  | raw v => intro u hu; cases hu; exact .raw v
  | rp h ih => intro u hu; cases hu with
    | rp g h1 h2 h3 h4 => exact .rp g (hb _ h1) (by rw [hw]; exact h2) (by rw [hw]; exact h3) (fun k x hx => ih x (mem_get hx) _ (h4 k x hx))
  | sl h ih => intro u hu; cases hu with
    | sl g h1 h2 h3 h4 h5 h6 h7 =>
      refine .sl g h1 h2 h3 h4 h5 (fun x hx hne => ?_) (fun k y hy => ?_)
      · obtain ⟨a, b, c⟩ := h6 x hx hne
        exact ⟨a, hb _ b, by rw [hw]; exact c⟩
      · exact flat_vl (H := []) (keep := fun _ => True) _ _ (fun k x x' h1 h2 => by rw [h1] at h2; cases h2; rfl) (fun k x x' h1 h2 => by rw [h1] at h2; cases h2; exact (h x (mem_get h1)).rs)
          (fun k x x' h1 h2 => by rw [h1] at h2; cases h2; exact ih x (mem_get h1)) (Nat.le_refl _) g h7 k y hy
  | slb h ih => intro u hu; cases hu with
    | slb g h1 h1' h2 h4 h5 h6 h7 =>
      refine .slb g h1 h1' h2 h4 h5 (fun x hx hne => ?_) (fun k y hy => ?_)
      · obtain ⟨a, b, c⟩ := h6 x hx hne
        exact ⟨a, hb _ b, by rw [hw]; exact c⟩
      · exact flat_vl (H := []) (keep := fun _ => True) _ _ (fun k x x' h1 h2 => by rw [h1] at h2; cases h2; rfl) (fun k x x' h1 h2 => by rw [h1] at h2; cases h2; exact (h x (mem_get h1)).rs)
          (fun k x x' h1 h2 => by rw [h1] at h2; cases h2; exact ih x (mem_get h1)) (Nat.le_refl _) g h7 k y hy
  | pm h h' ih ih' => intro u hu; cases hu with
    | pm h1 h2 h3 h4 h5 => exact .pm (hb _ h1) (by rw [hw]; exact h2) h3 (fun k x hx => ih x (mem_get hx) _ (h4 k x hx)) (fun k x hx => ih' x (mem_get hx) _ (h5 k x hx))
  | fn h h' ih ih' => intro u hu; cases hu with
    | fn h1 h2 h3 h4 => exact .fn h1 h2 (fun k x hx => ih x (mem_get hx) _ (h3 k x hx)) (fun k x hx => ih' x (mem_get hx) _ (h4 k x hx))
  | agg h ih => intro u hu; cases hu with
    | agg h1 h2 => exact .agg h1 (fun k x hx => ih x (mem_get hx) _ (h2 k x hx))
  | tup h ih => intro u hu; cases hu with
    | tup h1 h2 => exact .tup h1 (fun k x hx => ih x (mem_get hx) _ (h2 k x hx))

/-- The world of a call that is handed pure data. -/
def bare (C : Ctx) (X : Nat → Prop) : Ctx := { w := C.w, X := X, H := [], β := fun _ => none, κ := fun _ => 0 }

theorem bare_bad {C : Ctx} {X : Nat → Prop} {b : Nat} (h : (bare C X).bad b) : X b := by
  rcases h with h | ⟨i, hi, _⟩
  · exact h
  · simp [bare] at hi

theorem bare_hp {K : Kon} {C : Ctx} (hp : Hp K C) (X : Nat → Prop) (hX : ∀ b, X b → C.bad b) : Hp ⟨bare C X, K.G, none⟩ (bare C X) where
  X := rfl
  xown := fun b _ ⟨i, hi, _⟩ => by simp [bare] at hi
  xlt := fun b hb => by
    rcases hX b hb with h | ⟨i, hi, h⟩
    · exact Nat.lt_of_lt_of_le (hp.xlt b h) hp.size
    · exact hp.lt i b hi h
  inj := fun i _ _ hi _ _ _ => by simp [bare] at hi
  lt := fun i _ hi _ => by simp [bare] at hi
  obj := fun i o h => by simp [bare] at h
  ext := Ext.refl _
  os := rfl
  tape := rfl
  output := rfl
  size := Nat.le_refl _
  same := fun _ _ _ => rfl
  ownn := fun _ hb => .inl hb
  glob := fun g cs hg => by
    have : Pur (.rp (cs.map .raw)) := by simp
    exact this.vl (C := C) (C' := bare C X) rfl (fun b hb h => hb (hX b (bare_bad h))) _ (hp.glob g cs hg)

/-- Behind such a call all that the caller owns is as it was. -/
theorem bare_back {K : Kon} {C : Ctx} (hp : Hp K C) {X : Nat → Prop} {C1 : Ctx} (h : Hp ⟨bare C X, K.G, none⟩ C1) : Ext C { C with w := C1.w } ∧ Hp K { C with w := C1.w } :=
  hp.world C1.w h.os h.tape h.output h.size (fun b hb => h.same b hb (fun ⟨i, hi, _⟩ => by simp [bare] at hi))

/-- A pure call: the arguments are pure data, and so is what comes back. -/
theorem CallS.pure {P : Program} {G : List (Nat × List Value)} {f : FuncId} {args : List AV} {R : AV → Prop} (ha : ∀ x ∈ args, Pur x) (hr : ∀ r, R r → Pur r)
    (h : ACall P G f args [] (fun r H' => R r ∧ H' = [])) (H : Heap) : CallS P G f args H (fun r H' => R r ∧ H' = H) := by
  intro K C vs hG hH hp hargs
  subst hH
  subst hG
  have hbad : ∀ b, C.bad b → (bare C C.bad).bad b := fun b hb => .inl hb
  refine (h (bare C C.bad) vs rfl (bare_hp hp C.bad (fun b hb => hb)) ⟨hargs.1, fun k x hx => ?_⟩).mono ?_
  · exact (ha x (mem_get hx)).vl (C := C) (C' := bare C C.bad) rfl (fun b hb h => hb (bare_bad h)) _ (hargs.2 k x hx)
  · rintro e w' ⟨r, v, C1, rfl, rfl, hp1, hv, hR, hH1⟩
    obtain ⟨e1, e2⟩ := bare_back hp hp1
    refine ⟨r, v, { C with w := C1.w }, rfl, rfl, e1, e2, ?_, hR, rfl⟩
    refine (hr r hR).vl (C := C1) (C' := { C with w := C1.w }) rfl (fun b hb h => hb ?_) _ hv
    refine .inl ?_
    rw [hp1.X]
    exact h

/-- A call that is lent own memory as data; what comes back leads to no memory. -/
theorem CallS.lend {P : Program} {G : List (Nat × List Value)} {f : FuncId} {args args' : List AV} {H : Heap} {R : AV → Prop} (hl : args'.length = args.length)
    (ha : ∀ (k : Nat) (x x' : AV), args[k]? = some x → args'[k]? = some x' → Rs H (fun _ => False) x x') (hr : ∀ r, R r → Flt r)
    (h : ACall P G f args' [] (fun r H' => R r ∧ H' = [])) : CallS P G f args H (fun r H' => R r ∧ H' = H) := by
  intro K C vs hG hH hp hargs
  subst hH
  subst hG
  have hw : Weak (fun _ => False) C (bare C C.X) :=
    { w := rfl, bad := fun b hb h => hb (.inl (bare_bad h)), free := fun i b hi _ hb h => hp.xown b (bare_bad h) ⟨i, hi, hb⟩, lt := fun _ h => h.elim
      var := fun _ _ h => h.elim, mapo := fun _ _ h => h.elim, loopo := fun _ _ h => h.elim, vec := fun _ _ _ _ h => h.elim }
  refine (h (bare C C.X) vs rfl (bare_hp hp C.X (fun b hb => .inl hb)) ⟨by rw [hl]; exact hargs.1, fun k x' hx' => ?_⟩).mono ?_
  · have hk : k < args.length := by have := get_lt hx'; omega
    have hx := List.getElem?_eq_getElem hk
    exact (ha k _ x' hx hx').vl hw hp _ (hargs.2 k _ hx)
  · rintro e w' ⟨r, v, C1, rfl, rfl, hp1, hv, hR, hH1⟩
    obtain ⟨e1, e2⟩ := bare_back hp hp1
    exact ⟨r, v, { C with w := C1.w }, rfl, rfl, e1, e2, (hr r hR).vl _ hv, hR, rfl⟩

end Go.Ab
