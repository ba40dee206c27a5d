/- A program logic over the model: contracts of calls, proved from the model alone, without conditions. -/
import Derived.Test.YtghoaglolhdoeaaDoorAb7
import Derived.Laws.Tables
import Derived.Laws.AppendOwn
import Derived.Laws.MakeOwn
set_option linter.unusedSimpArgs false
set_option linter.unusedVariables false
namespace Go.Ab
open Go

/-- An operation, told over data. -/
def OpOk (P : Program) (o : Op) (F : Frm) (H : Heap) (v : AV) (H' : Heap) : Prop :=
  ∀ (K : Kon) (C : Ctx) (ρ : Operand → Value) (oo : Oper), oo.op = o → Hp K C → C.H = H → (∀ x, Vl C (ev F x) (ρ x)) →
    ∃ n u C', (execOp ρ oo).run P C.w = .ok n C'.w ∧ (n = .value u ∨ (n = .skip ∧ u = undef)) ∧ Ext C C' ∧ Hp K C' ∧ Vl C' v u ∧ C'.H = H'

/-- One that turns nothing. -/
theorem OpOk.still {P : Program} {o : Op} {F : Frm} {H : Heap} {v : AV}
    (h : ∀ (K : Kon) (C : Ctx) (ρ : Operand → Value) (oo : Oper), oo.op = o → Hp K C → C.H = H → (∀ x, Vl C (ev F x) (ρ x)) → ∃ u, (execOp ρ oo).run P C.w = .ok (.value u) C.w ∧ Vl C v u) :
    OpOk P o F H v H := fun K C ρ oo ho hp hH hρ =>
  let ⟨u, h1, h2⟩ := h K C ρ oo ho hp hH hρ
  ⟨.value u, u, C, h1, .inl rfl, Ext.refl C, hp, h2, hH⟩

section
variable {P : Program} {F : Frm} {H : Heap}

theorem ok_move (x : Operand) : OpOk P (.move x) F H (ev F x) H := .still fun K C ρ oo ho hp hH hρ => ⟨ρ x, by simp [execOp, ho], hρ x⟩
theorem ok_assign (x : Operand) : OpOk P (.assign x) F H (ev F x) H := .still fun K C ρ oo ho hp hH hρ => ⟨ρ x, by simp [execOp, ho], hρ x⟩

theorem ok_pick {c a b : Operand} {t : Bool} (h : ev F c = .raw (.bool t)) : OpOk P (.pick c a b) F H (if t then ev F a else ev F b) H :=
  .still fun K C ρ oo ho hp hH hρ => by
    have hc : ρ c = .bool t := Vl.raw_inv (h ▸ hρ c)
    refine ⟨if t then ρ a else ρ b, by cases t <;> simp [execOp, ho, hc, asBool], ?_⟩
    cases t <;> simp <;> exact hρ _

/-- Operations on plain values. -/
def rawBin (P : Program) (op : BinOp) (t : TypeId) (a b : Value) : Option Value :=
  match a, b with
  | .int k x, .int k' y => if k = k' then
      match op with
      | .add => some (.int k (k.wrap (x + y)))
      | .sub => some (.int k (k.wrap (x - y)))
      | .mul => some (.int k (k.wrap (x * y)))
      | .quo => if y = 0 then none else some (.int k (k.wrap (x.tdiv y)))
      | .rem => if y = 0 then none else some (.int k (x.tmod y))
      | .eql => some (.bool (x == y))
      | .neq => some (.bool (x != y))
      | .lss => some (.bool (x < y))
      | .leq => some (.bool (x ≤ y))
      | .gtr => some (.bool (x > y))
      | .geq => some (.bool (x ≥ y))
      | .and => some (.int k (k.wrap (BitVec.ofInt k.bits x &&& BitVec.ofInt k.bits y).toNat))
      | .or => some (.int k (k.wrap (BitVec.ofInt k.bits x ||| BitVec.ofInt k.bits y).toNat))
      | .xor => some (.int k (k.wrap (BitVec.ofInt k.bits x ^^^ BitVec.ofInt k.bits y).toNat))
      | _ => none
    else none
  | .string x, .string y =>
      match op with
      | .eql => some (.bool (x.toList == y.toList))
      | .neq => some (.bool (!(x.toList == y.toList)))
      | _ => none
  | .bool x, .bool y => match P.underlying t with
    | some .bool => match op with
      | .eql => some (.bool (x == y))
      | .neq => some (.bool (x != y))
      | _ => none
    | _ => none
  | _, _ => none

theorem equalIn_bool {t : TypeId} (hu : P.underlying t = some .bool) (d : Nat) (a b : Bool) (w : World) : (Op.equalIn (d + 1) t (.bool a) (.bool b)).run P w = .ok (a == b) w := by
  unfold Op.equalIn
  rw [Sem.run_bind, run_underlying hu]; rfl

theorem rawBin_run {op : BinOp} {t : TypeId} {x y : Operand} {a b v : Value} (h : rawBin P op t a b = some v) (w : World) :
    Sem.run P (do eqGuard op t x y a b; binOp op t a b) w = .ok v w := by
  unfold rawBin at h
  split at h
  · rename_i k x' k' y'
    split at h
    · rename_i hk
      subst hk
      cases op <;> simp at h <;> first
        | (subst h; simp [eqGuard, binOp, Op.intArith, Op.intCmp, Op.intBits, bne])
        | (obtain ⟨h0, rfl⟩ := h; simp [eqGuard, binOp, Op.intDiv, h0])
    · cases h
  · cases op <;> simp at h <;> (subst h; rfl)
  · rename_i x' y'
    split at h
    · rename_i hu
      have e : ∀ w, (Op.equal t (.bool x') (.bool y')).run P w = .ok (x' == y') w := equalIn_bool hu 9999 x' y'
      cases op <;> simp at h <;> subst h
      · rw [Sem.run_bind, show Sem.run P (eqGuard .eql t x y (.bool x') (.bool y')) w = .ok () w from rfl, Result.andThen_ok]
        show Sem.run P (do pure (Value.bool (← Op.equal t (.bool x') (.bool y')))) w = _
        rw [Sem.run_bind, e]; rfl
      · rw [Sem.run_bind, show Sem.run P (eqGuard .neq t x y (.bool x') (.bool y')) w = .ok () w from rfl, Result.andThen_ok]
        show Sem.run P (do pure (Value.bool (!(← Op.equal t (.bool x') (.bool y'))))) w = _
        rw [Sem.run_bind, e]; rfl
    · cases h
  · cases h

theorem ok_bin {op : BinOp} {t t' : TypeId} {x y : Operand} {a b v : Value} (hx : ev F x = .raw a) (hy : ev F y = .raw b) (h : rawBin P op t a b = some v) :
    OpOk P (.binOp op t x y t') F H (.raw v) H := .still fun K C ρ oo ho hp hH hρ => by
  have h1 : ρ x = a := Vl.raw_inv (hx ▸ hρ x)
  have h2 : ρ y = b := Vl.raw_inv (hy ▸ hρ y)
  refine ⟨v, ?_, .raw v⟩
  have := rawBin_run (x := x) (y := y) h C.w
  simp only [execOp, ho, h1, h2]
  rw [Sem.run_bind, this]; rfl

def rawUn (op : UnOp) (a : Value) : Option Value :=
  match op, a with
  | .not, .bool b => some (.bool !b)
  | .neg, .int k n => some (.int k (k.wrap (0 - n)))
  | _, _ => none

theorem ok_un {op : UnOp} {t : TypeId} {x : Operand} {a v : Value} (hx : ev F x = .raw a) (h : rawUn op a = some v) : OpOk P (.unOp op t x) F H (.raw v) H :=
  .still fun K C ρ oo ho hp hH hρ => by
    have h1 : ρ x = a := Vl.raw_inv (hx ▸ hρ x)
    refine ⟨v, ?_, .raw v⟩
    simp only [execOp, ho, h1]
    cases op <;> cases a <;> simp [rawUn] at h <;> (subst h; first | rfl | simp [Op.unary, Op.intArith])

def intKindOf (P : Program) (t : TypeId) : Option IntKind := match P.underlying t with | some (.int k) => some k | _ => none

theorem ok_conv {s d : TypeId} {x : Operand} {k k' ks : IntKind} {n : Int} (hs : intKindOf P s = some ks) (hd : intKindOf P d = some k') (hx : ev F x = .raw (.int k n)) :
    OpOk P (.convert s d x) F H (.raw (.int k' (k'.wrap n))) H := .still fun K C ρ oo ho hp hH hρ => by
  have h1 : ρ x = .int k n := Vl.raw_inv (hx ▸ hρ x)
  refine ⟨_, ?_, .raw _⟩
  have hs' : P.underlying s = some (.int ks) := by unfold intKindOf at hs; split at hs <;> simp at hs; subst hs; assumption
  have hd' : P.underlying d = some (.int k') := by unfold intKindOf at hd; split at hd <;> simp at hd; subst hd; assumption
  simp only [execOp, ho, h1, convert, Sem.run_bind, run_underlying hs', run_underlying hd', Result.andThen_ok, Conv.intToInt, Sem.run_pure]

theorem ok_extract {x : Operand} {i : Nat} {vs : List AV} {v : AV} (hx : ev F x = .tup vs) (hi : vs[i]? = some v) : OpOk P (.extract x i) F H v H :=
  .still fun K C ρ oo ho hp hH hρ => by
    have h := hx ▸ hρ x
    generalize hr : ρ x = r at h
    cases h with
    | tup h1 h2 =>
      rename_i us
      have hl : i < us.size := by rw [h1]; exact get_lt hi
      refine ⟨us.getD i undef, ?_, h2 i v hi⟩
      simp [execOp, ho, hr, Instr.extract, hl]

/-- A pointer that is none. -/
def isPtr : AV → Bool
  | .ptr _ _ => true
  | .rp _ => true
  | _ => false

theorem ok_nilCheck {x : Operand} (hx : isPtr (ev F x) = true) : OpOk P (.nilCheck x) F H (ev F x) H := .still fun K C ρ oo ho hp hH hρ => by
  have h := hρ x
  refine ⟨ρ x, ?_, hρ x⟩
  generalize hv : ρ x = r at h ⊢
  generalize ev F x = av at h hx
  cases h <;> simp [isPtr] at hx <;> simp [execOp, ho, hv]

theorem ok_makeFunc {f : FuncId} {a b : Array Operand} : OpOk P (.makeFunc (.func f) a b) F H (.fn f (a.toList.map (ev F)) (b.toList.map (ev F))) H := .still fun K C ρ oo ho hp hH hρ => by
  refine ⟨.func (.func f) (a.map ρ) (b.map ρ), by simp [execOp, ho, Instr.makeFunc], .fn (by simp) (by simp) (fun k x hx => ?_) (fun k x hx => ?_)⟩
  · simp only [List.getElem?_map, Option.map_eq_some_iff, Array.getElem?_toList] at hx
    obtain ⟨o, ho', rfl⟩ := hx
    have hl : k < a.size := by
      rcases Nat.lt_or_ge k a.size with h' | h'
      · exact h'
      · rw [Array.getElem?_eq_none h'] at ho'; cases ho'
    have : a[k] = o := by rw [Array.getElem?_eq_getElem hl] at ho'; exact Option.some.inj ho'
    simp [hl, this]; exact hρ o
  · simp only [List.getElem?_map, Option.map_eq_some_iff, Array.getElem?_toList] at hx
    obtain ⟨o, ho', rfl⟩ := hx
    have hl : k < b.size := by
      rcases Nat.lt_or_ge k b.size with h' | h'
      · exact h'
      · rw [Array.getElem?_eq_none h'] at ho'; cases ho'
    have : b[k] = o := by rw [Array.getElem?_eq_getElem hl] at ho'; exact Option.some.inj ho'
    simp [hl, this]; exact hρ o

theorem ok_load {t : TypeId} {x : Operand} {v : AV} (h : rdVar P t H (ev F x) = some v) : OpOk P (.load t x) F H v H := .still fun K C ρ oo ho hp hH hρ => by
  subst hH
  obtain ⟨b, o, u, h1, h2, h3⟩ := rdVar_ok (P := P) hp (hρ x) h
  exact ⟨u, by simp [execOp, ho, h1, Instr.loadAt, Instr.sureAddr, h2], h3⟩

/-- Where a field lies. -/
def fieldOff (P : Program) (s : TypeId) (f : Nat) : Option (Nat × TypeId) :=
  match P.underlying s with
  | some (.struct fs) => match fs[f]? with
    | some x => match tsize P x.type with
      | some 0 => none
      | some _ => some (x.offset, x.type)
      | none => none
    | none => none
  | _ => none

theorem fieldOff_spec {s : TypeId} {f o : Nat} {t : TypeId} (h : fieldOff P s f = some (o, t)) :
    ∃ fs x n, P.underlying s = some (.struct fs) ∧ fs[f]? = some x ∧ tsize P x.type = some n ∧ n ≠ 0 ∧ x.offset = o ∧ x.type = t := by
  unfold fieldOff at h
  split at h
  · rename_i fs hfs
    split at h
    · rename_i x hx
      split at h <;> simp at h
      rename_i n hn hs
      exact ⟨fs, x, n, hfs, hx, hs, hn, h.1, h.2⟩
    · cases h
  · cases h

/-- A pointer moved on within what it points to. -/
def ptrAdd (a : AV) (n : Nat) : Option AV :=
  match a with
  | .ptr i off => some (.ptr i (off + n))
  | .pel i ver j off => some (.pel i ver j (off + n))
  | .rp cs => if n ≤ cs.length then some (.rp (cs.drop n)) else none
  | _ => none

theorem ptrAdd_ok {C : Ctx} {a a' : AV} {v : Value} {n : Nat} (hv : Vl C a v) (h : ptrAdd a n = some a') (K : Kon) (hp : Hp K C) (hpel : ∀ i ver j off, a = .pel i ver j off → ∃ z es, C.H[i]? = some (.vec z ver es)) :
    ∃ b o, v = .pointer (some ⟨b, o, none⟩) ∧ Vl C a' (.pointer (some ⟨b, o + n, none⟩)) := by
  cases hv with
  | ptr h1 h2 => simp [ptrAdd] at h; subst h; exact ⟨_, _, rfl, .ptr h1 h2⟩
  | pel hi hv hh =>
    simp [ptrAdd] at h; subst h
    obtain ⟨z, es, hes⟩ := hpel _ _ _ _ rfl
    obtain ⟨hj, b, hb, rfl⟩ := hh _ _ hes
    refine ⟨b, _, rfl, .pel hi hv (fun z' es' hes' => ?_)⟩
    rw [hes] at hes'; cases hes'
    exact ⟨hj, b, hb, by rw [Nat.add_assoc]⟩
  | rp g hb hs hc hx =>
    simp [ptrAdd] at h
    obtain ⟨hle, rfl⟩ := h
    refine ⟨_, _, rfl, .rp (fun k => g (n + k)) hb hs (fun k hk => ?_) (fun k x hx' => ?_)⟩
    · rw [Nat.add_assoc]; exact hc (n + k) (by simp at hk; omega)
    · rw [List.getElem?_drop] at hx'; exact hx _ _ hx'
  | _ => simp [ptrAdd] at h

/-- Is a pointer into a row of the call's own up to date? -/
def fresh (H : Heap) : AV → Bool
  | .pel i ver _ _ => match H[i]? with | some (.vec _ v _) => v == ver | _ => false
  | _ => true

theorem fresh_pel {a : AV} (h : fresh H a = true) : ∀ i ver j off, a = .pel i ver j off → ∃ z es, H[i]? = some (.vec z ver es) := by
  rintro i ver j off rfl
  simp only [fresh] at h
  split at h
  · rename_i z v es hes
    have : v = ver := by simpa using h
    subst this
    exact ⟨z, es, hes⟩
  · cases h

theorem ok_fieldAddr {s : TypeId} {x : Operand} {f o : Nat} {t : TypeId} {v : AV} (hf : fieldOff P s f = some (o, t)) (hfr : fresh H (ev F x) = true) (h : ptrAdd (ev F x) o = some v) :
    OpOk P (.fieldAddr s x f) F H v H := .still fun K C ρ oo ho hp hH hρ => by
  subst hH
  obtain ⟨fs, y, n, h1, h2, h3, h4, rfl, rfl⟩ := fieldOff_spec hf
  obtain ⟨b, o, hv, hv'⟩ := ptrAdd_ok (hρ x) h K hp (fresh_pel hfr)
  refine ⟨_, ?_, hv'⟩
  simp only [execOp, ho, hv, Instr.fieldAt, Sem.run_bind, run_underlying h1, Result.andThen_ok, h2, Instr.sureAddr, Sem.run_pure, fieldPlace, tsize_run h3, h4, if_false]
  simp [add_none]

theorem ok_field {s : TypeId} {x : Operand} {f o : Nat} {t : TypeId} {cs : List AV} {g : Bool} {n : Nat} {v : AV} (hf : fieldOff P s f = some (o, t)) (hx : ev F x = .agg cs) (hg : tagg P t = some g) (hn : tsize P t = some n)
    (hl : o + n ≤ cs.length) (hv : v = if g then .agg ((cs.drop o).take n) else (cs[o]?).getD .any) : OpOk P (.field s x f) F H v H := .still fun K C ρ oo ho hp hH hρ => by
  obtain ⟨fs, y, n', h1, h2, h3, h4, rfl, rfl⟩ := fieldOff_spec hf
  have h := hx ▸ hρ x
  generalize hr : ρ x = r at h
  cases h with
  | agg g1 g2 =>
    rename_i us
    rw [hn] at h3; cases h3
    simp only [execOp, ho, hr, Instr.field, Sem.run_bind, run_underlying h1, Result.andThen_ok, h2, asAgg, Sem.run_pure, part, tagg_run hg]
    cases g with
    | true =>
      refine ⟨.agg (us.extract y.offset (y.offset + n)), by simp [tsize_run hn], ?_⟩
      rw [hv]
      refine .agg (by simp; omega) (fun k x hx => ?_)
      have hk : k < n := by have := get_lt hx; simp at this; omega
      rw [if_pos rfl] at *
      rw [List.getElem?_take_of_lt hk, List.getElem?_drop] at hx
      have := g2 _ x hx
      have e : (us.extract y.offset (y.offset + n)).getD k undef = us.getD (y.offset + k) undef := by
        simp [Array.getElem?_extract]
        rw [if_pos (by omega)]
      rw [e]; exact this
    | false =>
      have hl' : y.offset < us.size := by omega
      refine ⟨us.getD y.offset undef, by simp [hl'], ?_⟩
      rw [hv]
      have hc : y.offset < cs.length := by omega
      simp only [Bool.false_eq_true, if_false, List.getElem?_eq_getElem hc, Option.getD_some]
      exact g2 _ _ (List.getElem?_eq_getElem hc)
end

end Go.Ab
