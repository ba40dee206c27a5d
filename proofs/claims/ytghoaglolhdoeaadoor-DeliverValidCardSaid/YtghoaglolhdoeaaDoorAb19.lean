/- A program logic over the model: contracts of calls, proved from the model alone, without conditions. -/
import Derived.Test.YtghoaglolhdoeaaDoorAb18
import Derived.OrdersIn
set_option linter.unusedSimpArgs false
set_option linter.unusedVariables false
namespace Go.Ab
open Go

/-! ## Regions whose order is drawn -/

/-- A step with one outcome. -/
inductive OpD (E : Env) (o : Oper) (F : Frm) (H : Heap) (v : AV) (H' : Heap) : Prop
  | op (h : OpG E.P E.G o.op F H v H')
  | call (g : Operand) (args : Array Operand) (tys : Array TypeId) (f : FuncId) (first caps vs : List AV) (ho : o.op = .call { callee := .value g, args := args, argTypes := tys })
      (hg : evx F g = some (.fn f first caps)) (hx : evs F args.toList = some vs) (hc : callable E.P f = true) (hr : CallS E.P E.G f (first ++ vs ++ caps) H (fun r H'' => r = v ∧ H'' = H'))

theorem opd_run {E : Env} {o : Oper} {F : Frm} {H H' : Heap} {v : AV} (h : OpD E o F H v H') (hnd : noDefer o.op = true)
    {K : Kon} {C : Ctx} {a : Act} (hG : K.G = E.G) (hp : Hp K C) (hfr : FrOk C F a.tmps) (hH : C.H = H) (Q : Exit → Act → World → Prop) :
    o.wpIn (rnd K.rb) 0 E.P a C.w (fun a' w' => ∃ u C', a' = a.put o.dst u ∧ C'.w = w' ∧ Ext C C' ∧ Hp K C' ∧ Vl C' v u ∧ C'.H = H') Q := by
  refine ⟨fun _ _ => trivial, ?_⟩
  have hsem : o.semAt (rnd K.rb).round a.eval = execOp a.eval o := Oper.semAt_eq _ _ _ (fun c hc => by rw [hc] at hnd; cases hnd)
  rw [hsem]
  cases h with
  | op h =>
    obtain ⟨n, u, C', h1, h2, h3, h4, h5, h6⟩ := h K C a.eval o hG rfl hp hH (ev_ok hfr)
    rw [h1]
    rcases h2 with rfl | ⟨rfl, rfl⟩
    · exact ⟨u, C', rfl, rfl, h3, h4, h5, h6⟩
    · exact ⟨undef, C', rfl, rfl, h3, h4, h5, h6⟩
  | call g args tys f first caps vs ho hg hx hc hr =>
    have hv := evx_eq hg ▸ ev_ok hfr g
    generalize hgv : a.eval g = gv at hv
    cases hv with
    | fn h1 h2 hf hcp =>
      rename_i fv cv
      have hrun : (execOp a.eval o).run E.P C.w = .ok (.enter f (fv ++ args.map a.eval ++ cv)) C.w := by
        simp only [execOp, ho, resolve, hgv, Deferred.ofValue, Sem.run_bind, Sem.run_pure, Result.andThen_ok, invoke, callable_run hc]
      rw [hrun]
      refine ⟨fun h => by simp [rnd, Fence.wide] at h, ?_⟩
      have := hr K C _ hG hH hp (by rw [← evs_eq hx]; exact args_ok (ev_ok hfr) args h1 h2 hf hcp)
      refine callsIn_rnd (this.mono ?_)
      rintro e w' ⟨r, u, C', rfl, rfl, g1, g2, g3, rfl, g4⟩
      exact ⟨u, C', rfl, rfl, g1, g2, g3, g4⟩

/-- Of a frame what an operation looks at. -/
def restr (F : Frm) : List Tmp → Frm
  | [] => []
  | t :: ts => match look F t with
    | some v => (t, v) :: restr F ts
    | none => restr F ts

theorem restr_lookup (F : Frm) : ∀ (ts : List Tmp) (k : Nat) (x : AV), (restr F ts).lookup k = some x → k ∈ ts ∧ ev F (.tmp k) = x
  | [], k, x, h => by simp [restr] at h
  | t :: ts, k, x, h => by
    simp only [restr] at h
    cases hl : look F t with
    | none => rw [hl] at h; have := restr_lookup F ts k x h; exact ⟨by simp [this.1], this.2⟩
    | some v =>
      rw [hl] at h
      simp only [List.lookup_cons] at h
      split at h
      · rename_i hk
        have : k = t := by simpa using hk
        subst this
        cases h
        exact ⟨by simp, by rw [look_eq] at hl; simp [ev, hl]⟩
      · have := restr_lookup F ts k x h; exact ⟨by simp [this.1], this.2⟩

/-- A heap of which only some objects are known. -/
def msk (ks : List Nat) (y : Nat → AObj) : Nat → Heap → Heap
  | _, [] => []
  | k, o :: l => (bif ks.any (Nat.beq k) then o else y k) :: msk ks y (k + 1) l

theorem any_beq {ks : List Nat} {k : Nat} : ks.any (Nat.beq k) = decide (k ∈ ks) := by
  induction ks with
  | nil => simp
  | cons a ks ih =>
    simp only [List.any_cons, ih]
    by_cases h : k = a
    · subst h; simp
    · have : Nat.beq k a = false := by
        cases hb : Nat.beq k a with
        | false => rfl
        | true => exact absurd (Nat.eq_of_beq_eq_true hb) h
      simp [this, h]

theorem msk_get (ks : List Nat) (y : Nat → AObj) : ∀ (k : Nat) (H : Heap) (j : Nat), (msk ks y k H)[j]? = (H[j]?).map (fun o => if k + j ∈ ks then o else y (k + j))
  | k, [], j => by simp [msk]
  | k, o :: l, 0 => by
    simp only [msk, any_beq]
    by_cases h : k ∈ ks <;> simp [h]
  | k, o :: l, j + 1 => by
    simp only [msk, List.getElem?_cons_succ, msk_get ks y (k + 1) l j]
    rw [show k + 1 + j = k + (j + 1) by omega]

def upd1 (up : Option (Nat × AObj)) (H : Heap) : Heap := match up with | some (i, o) => H.set i o | none => H

/-- What is said beside the operations: on which each rests, which slots it looks at, which objects it knows, which it turns. -/
structure Plan where
  dep : List (List Nat)
  lks : List (List Tmp)
  ks : List (List Nat)
  wr : List (Option Nat)

def Plan.depOf (p : Plan) (i : Nat) : List Nat := p.dep.getD i []
def Plan.lksOf (p : Plan) (i : Nat) : List Tmp := p.lks.getD i []
def Plan.ksOf (p : Plan) (i : Nat) : List Nat := p.ks.getD i []
def Plan.wrOf (p : Plan) (i : Nat) : Option Nat := p.wr.getD i none

def Plan.ok (p : Plan) (ops : Array Oper) : Bool :=
  (List.range ops.size).all fun i => match ops[i]? with
    | none => false
    | some o =>
      o.after.toList.all (fun e => !Region.binds .any e || e.on.blt i) &&
      (p.depOf i).all (fun j => o.after.toList.any fun e => Region.binds .any e && (e.on == j || (p.depOf e.on).contains j)) &&
      (p.lksOf i).all (fun t => (o.looksAt ops).contains t) &&
      (List.range i).all fun j => match ops[j]? with
        | none => false
        | some q => (p.depOf i).contains j || (o.apart ops q && (match p.wrOf i with | some k => !(p.ksOf j).contains k | none => true) && (match p.wrOf j with | some k => !(p.ksOf i).contains k | none => true))

/-- The operations in the order in which they stand, each with what it looks at alone. -/
def DOps (E : Env) (ops : Array Oper) (p : Plan) (Q : Frm → Heap → Prop) : Nat → List Oper → Frm → Heap → Prop
  | _, [], F, H => Q F H
  | i, o :: rest, F, H => ∃ w, gd ops (restr F (p.lksOf i)) o.guard = some w ∧
      (w = true → ∃ v up H', (∀ y, OpD E o (restr F (p.lksOf i)) (msk (p.ksOf i) y 0 H) v (upd1 up (msk (p.ksOf i) y 0 H))) ∧
        (match up with | some (k, ob) => p.wrOf i = some k ∧ k ∈ p.ksOf i ∧ H.set k ob = H' | none => H = H') ∧ DOps E ops p Q (i + 1) rest (put F o.dst v) H') ∧
      (w = false → DOps E ops p Q (i + 1) rest (put F o.dst (.raw undef)) H)
end Go.Ab

namespace Go.Ab
open Go

/-- What the run in order tells. -/
structure Data (E : Env) (ops : Array Oper) (p : Plan) (fr : Nat → Frm) (hp : Nat → Heap) (val : Nat → AV) (up : Nat → Option (Nat × AObj)) (w : Nat → Bool) (k : Nat) (o : Oper) : Prop where
  ho : ops[k]? = some o
  fr' : fr (k + 1) = put (fr k) o.dst (val k)
  hp' : hp (k + 1) = upd1 (up k) (hp k)
  g : gd ops (restr (fr k) (p.lksOf k)) o.guard = some (w k)
  st : w k = true → ∀ y, OpD E o (restr (fr k) (p.lksOf k)) (msk (p.ksOf k) y 0 (hp k)) (val k) (upd1 (up k) (msk (p.ksOf k) y 0 (hp k)))
  off : w k = false → val k = .raw undef ∧ up k = none
  wr : ∀ j ob, up k = some (j, ob) → p.wrOf k = some j ∧ j ∈ p.ksOf k

theorem dops_data {E : Env} {ops : Array Oper} {p : Plan} {Q : Frm → Heap → Prop} : ∀ (l : List Oper) (i : Nat) (F : Frm) (H : Heap), DOps E ops p Q i l F H → (∀ j, l[j]? = ops[i + j]?) → i + l.length = ops.size →
    ∃ (fr : Nat → Frm) (hp : Nat → Heap) (val : Nat → AV) (up : Nat → Option (Nat × AObj)) (w : Nat → Bool), fr i = F ∧ hp i = H ∧ Q (fr ops.size) (hp ops.size) ∧
      ∀ k, i ≤ k → k < ops.size → ∃ o, Data E ops p fr hp val up w k o
  | [], i, F, H, h, hl, hs => by
    simp at hs; subst hs
    exact ⟨fun _ => F, fun _ => H, fun _ => .any, fun _ => none, fun _ => false, rfl, rfl, h, fun k h1 h2 => by omega⟩
  | o :: l, i, F, H, h, hl, hs => by
    obtain ⟨w0, hg, ht, hf⟩ := h
    have hl' : ∀ j, l[j]? = ops[i + 1 + j]? := fun j => by have := hl (j + 1); simpa [Nat.add_assoc, Nat.add_comm 1 j] using this
    have hs' : i + 1 + l.length = ops.size := by simp at hs; omega
    have ho : ops[i]? = some o := by simpa using (hl 0).symm
    have key : ∀ (v : AV) (u : Option (Nat × AObj)), (w0 = true → ∀ y, OpD E o (restr F (p.lksOf i)) (msk (p.ksOf i) y 0 H) v (upd1 u (msk (p.ksOf i) y 0 H))) → (w0 = false → v = .raw undef ∧ u = none) →
        (∀ j ob, u = some (j, ob) → p.wrOf i = some j ∧ j ∈ p.ksOf i) → DOps E ops p Q (i + 1) l (put F o.dst v) (upd1 u H) →
        ∃ (fr : Nat → Frm) (hp : Nat → Heap) (val : Nat → AV) (up : Nat → Option (Nat × AObj)) (w : Nat → Bool), fr i = F ∧ hp i = H ∧ Q (fr ops.size) (hp ops.size) ∧
          ∀ k, i ≤ k → k < ops.size → ∃ o, Data E ops p fr hp val up w k o := by
      intro v u h1 h2 h3 h4
      obtain ⟨fr, hp, val, up, w, e1, e2, e3, e4⟩ := dops_data l (i + 1) _ _ h4 hl' hs'
      refine ⟨fun k => if k = i then F else fr k, fun k => if k = i then H else hp k, fun k => if k = i then v else val k, fun k => if k = i then u else up k, fun k => if k = i then w0 else w k, by simp, by simp, ?_, fun k hk hkn => ?_⟩
      · have : ops.size ≠ i := by omega
        simp [this]; exact e3
      · by_cases hki : k = i
        · subst hki
          exact ⟨o, { ho := ho, fr' := by simp [e1], hp' := by simp [e2], g := by simpa using hg, st := by simpa using h1, off := by simpa using h2, wr := by simpa using h3 }⟩
        · obtain ⟨o', d⟩ := e4 k (by omega) hkn
          have hki' : k + 1 ≠ i := by omega
          exact ⟨o', { ho := d.ho, fr' := by simp [hki, hki']; exact d.fr', hp' := by simp [hki, hki']; exact d.hp', g := by simp [hki]; exact d.g, st := by simp [hki]; exact d.st, off := by simp [hki]; exact d.off, wr := by simp [hki]; exact d.wr }⟩
    cases w0 with
    | false => exact key (.raw undef) none (fun h => by cases h) (fun _ => ⟨rfl, rfl⟩) (fun _ _ h => by cases h) (hf rfl)
    | true =>
      obtain ⟨v, u, H', a1, a2, a3⟩ := ht rfl
      refine key v u (fun _ => a1) (fun h => by cases h) (fun j ob hu => ?_) ?_
      · subst hu; exact ⟨a2.1, a2.2.1⟩
      · cases u with
        | none => simp only [upd1]; simp only at a2; rw [a2]; exact a3
        | some q => obtain ⟨k, ob⟩ := q; simp only [upd1]; rw [a2.2.2]; exact a3

/-- The last that is put into a slot. -/
def sl (dst : Nat → Option Tmp) (val : Nat → AV) (S : Nat → Bool) (x0 : AV) (t : Tmp) : Nat → AV
  | 0 => x0
  | m + 1 => if S m = true ∧ dst m = some t then val m else sl dst val S x0 t m
/-- The last that an object turns to. -/
def ob (up : Nat → Option (Nat × AObj)) (S : Nat → Bool) (x0 : Option AObj) (j : Nat) : Nat → Option AObj
  | 0 => x0
  | m + 1 => match up m with
    | some (k, o) => if S m = true ∧ k = j then some o else ob up S x0 j m
    | none => ob up S x0 j m

section
variable {dst : Nat → Option Tmp} {val : Nat → AV} {S S' : Nat → Bool} {x0 : AV} {t : Tmp} {up : Nat → Option (Nat × AObj)} {y0 : Option AObj} {j : Nat}
theorem sl_congr : ∀ {m : Nat}, (∀ k, k < m → dst k = some t → S k = S' k) → sl dst val S x0 t m = sl dst val S' x0 t m
  | 0, _ => rfl
  | m + 1, h => by
    simp only [sl]
    rw [sl_congr (m := m) (fun k hk => h k (by omega))]
    by_cases hd : dst m = some t
    · rw [h m (by omega) hd]
    · simp [hd]
theorem sl_cut {m : Nat} (i : Nat) (h : ∀ k, i ≤ k → k < m → dst k = some t → S k = false) (hi : i ≤ m) : sl dst val S x0 t m = sl dst val S x0 t i := by
  induction m with
  | zero => have : i = 0 := by omega
            subst this; rfl
  | succ m ih =>
    by_cases him : i = m + 1
    · subst him; rfl
    · simp only [sl]
      rw [if_neg, ih (fun k h1 h2 => h k h1 (by omega)) (by omega)]
      rintro ⟨h1, h2⟩
      rw [h m (by omega) (by omega) h2] at h1; cases h1
theorem ob_congr : ∀ {m : Nat}, (∀ k o, k < m → up k = some (j, o) → S k = S' k) → ob up S y0 j m = ob up S' y0 j m
  | 0, _ => rfl
  | m + 1, h => by
    simp only [ob]
    rw [ob_congr (m := m) (fun k o hk => h k o (by omega))]
    cases hu : up m with
    | none => rfl
    | some q =>
      obtain ⟨k, o⟩ := q
      simp only
      by_cases hkj : k = j
      · subst hkj; rw [h m o (by omega) hu]
      · simp [hkj]
theorem ob_cut {m : Nat} (i : Nat) (h : ∀ k o, i ≤ k → k < m → up k = some (j, o) → S k = false) (hi : i ≤ m) : ob up S y0 j m = ob up S y0 j i := by
  induction m with
  | zero => have : i = 0 := by omega
            subst this; rfl
  | succ m ih =>
    by_cases him : i = m + 1
    · subst him; rfl
    · simp only [ob]
      rw [ih (fun k o h1 h2 => h k o h1 (by omega)) (by omega)]
      cases hu : up m with
      | none => rfl
      | some q =>
        obtain ⟨k, o⟩ := q
        simp only
        rw [if_neg]
        rintro ⟨h1, rfl⟩
        rw [h m o (by omega) (by omega) hu] at h1; cases h1
end

theorem countP_lt {p q : Nat → Bool} {i : Nat} : ∀ (l : List Nat), (∀ x, p x = true → q x = true) → i ∈ l → q i = true → p i = false → l.countP p < l.countP q
  | [], _, h, _, _ => by cases h
  | a :: l, hpq, hi, h1, h2 => by
    simp only [List.countP_cons]
    rcases List.mem_cons.1 hi with rfl | hi
    · have := List.countP_mono_left (p := p) (q := q) (l := l) (fun x _ => hpq x)
      rw [h1, h2]; simp; omega
    · have := countP_lt l hpq hi h1 h2
      have : (if p a = true then 1 else 0) ≤ (if q a = true then 1 else 0) := by
        by_cases h : p a = true
        · simp [h, hpq a h]
        · simp [h]
      omega
end Go.Ab
