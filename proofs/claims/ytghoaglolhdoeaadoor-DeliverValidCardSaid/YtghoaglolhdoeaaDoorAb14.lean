/- A program logic over the model: contracts of calls, proved from the model alone, without conditions. -/
import Derived.Test.YtghoaglolhdoeaaDoorAb13
set_option linter.unusedSimpArgs false
set_option linter.unusedVariables false
namespace Go.Ab
open Go

def put (F : Frm) (d : Option Tmp) (v : AV) : Frm := match d with | some d => (d, v) :: F | none => F

/-- Is the operation wanted? -/
def gd (ops : Array Oper) (F : Frm) : Option (Nat × Bool) → Option Bool
  | none => some true
  | some (j, want) => match (ops[j]?).bind (·.dst) with
    | some t => match ev F (.tmp t) with
      | .raw (.bool b) => some (b == want)
      | .raw (.tuple _) => some false
      | _ => none
    | none => none

theorem gd_ok {ops : Array Oper} {F : Frm} {C : Ctx} {a : Act} (hf : FrOk C F a.tmps) {o : Oper} {w : Bool} (h : gd ops F o.guard = some w) : Region.wanted o (yielded ops a.tmps) = w := by
  unfold Region.wanted
  cases hg : o.guard with
  | none => rw [hg] at h; simp [gd] at h; simp [h]
  | some jw =>
    obtain ⟨j, want⟩ := jw
    rw [hg] at h
    simp only [gd] at h
    split at h
    · rename_i t ht
      have hv := ev_ok (a := a) hf (.tmp t)
      simp only [Act.eval] at hv
      split at h <;> simp at h
      · rename_i b hb
        rw [hb] at hv
        have := Vl.raw_inv hv
        subst h
        have ht2 : a.tmps[t]? = some (.bool b) := by
          cases hq : a.tmps[t]? with
          | none => simp [hq] at this; cases this
          | some u => simp [hq] at this; rw [this]
        simp only [yielded, ht, Option.bind_some, ht2]
        cases b <;> cases want <;> rfl
      · rename_i vs hb
        rw [hb] at hv
        have := Vl.raw_inv hv
        subst h
        have : yielded ops a.tmps j = none := by
          simp only [yielded, ht, Option.bind_some]
          cases hq : a.tmps[t]? with
          | none => rfl
          | some u => simp [hq] at this; rw [this]
        show (yielded ops a.tmps j == some want) = false
        rw [this]; rfl
    · cases h

def callable (P : Program) (f : FuncId) : Bool := match P.funcs[f]? with
  | some fn => fn.name != "runtime.NumGoroutine" && fn.body.isSome
  | none => false

theorem callable_run {P : Program} {f : FuncId} (h : callable P f = true) (args : Array Value) (w : World) : (callFunc f args).run P w = .ok (.enter f args) w := by
  unfold callable at h
  split at h
  · rename_i fn hf
    simp only [Bool.and_eq_true, bne_iff_ne, ne_eq] at h
    have hb : fn.body ≠ none := fun hq => by rw [hq] at h; simp at h
    simp [callFunc, hf, h.1, hb]
  · cases h

/-- What a round of a range over a function leaves. -/
def roundQ (i : Nat) (K' : AV → Heap → Prop) : Exit → Frm → Heap → Prop
  | .normal, _, H => ∃ l, H[i]? = some (.loopo l) ∧ K' (.raw (.bool true)) (H.set i (.loopo { l with state := .ready, pending := none }))
  | .ret, _, H => ∃ l, H[i]? = some (.loopo l) ∧ K' (.raw (.bool false)) (H.set i (.loopo { l with state := .done, pending := some .ret }))
  | .exit id, _, H => ∃ l, H[i]? = some (.loopo l) ∧ K' (.raw (.bool false)) (H.set i (.loopo { l with state := .done, pending := some (.exit id) }))
  | _, _, _ => False

/-- yield's arguments in the loop's parameters. -/
def putAll (F : Frm) : List Tmp → List AV → Frm
  | p :: ps, x :: xs => putAll ((p, x) :: F) ps xs
  | _, _ => F

/-- An operation, told over data, where some globals are known. -/
def OpG (P : Program) (G : List (Nat × List Value)) (o : Op) (F : Frm) (H : Heap) (v : AV) (H' : Heap) : Prop :=
  ∀ (K : Kon) (C : Ctx) (ρ : Operand → Value) (oo : Oper), K.G = G → oo.op = o → Hp K C → C.H = H → (∀ x, Vl C (ev F x) (ρ x)) →
    ∃ n u C', (execOp ρ oo).run P C.w = .ok n C'.w ∧ (n = .value u ∨ (n = .skip ∧ u = undef)) ∧ Ext C C' ∧ Hp K C' ∧ Vl C' v u ∧ C'.H = H'

theorem OpOk.g {P : Program} {G : List (Nat × List Value)} {o : Op} {F : Frm} {H H' : Heap} {v : AV} (h : OpOk P o F H v H') : OpG P G o F H v H' := fun K C ρ oo _ => h K C ρ oo

inductive StepP (E : Env) (o : Oper) (F : Frm) (H : Heap) (K' : AV → Heap → Prop) : Prop
  | op (v : AV) (H' : Heap) (h : OpG E.P E.G o.op F H v H') (k : K' v H')
  | call (g : Operand) (args : Array Operand) (tys : Array TypeId) (f : FuncId) (first caps : List AV) (R : AV → Heap → Prop) (ho : o.op = .call { callee := .value g, args := args, argTypes := tys })
      (hg : ev F g = .fn f first caps) (hc : callable E.P f = true) (hr : CallS E.P E.G f (first ++ args.toList.map (ev F) ++ caps) H R) (k : ∀ r H', R r H' → K' r H')
  | yield (g : Operand) (args : Array Operand) (tys : Array TypeId) (i : Nat) (l : LoopA) (ho : o.op = .call { callee := .value g, args := args, argTypes := tys })
      (hg : ev F g = .yl i) (hi : H[i]? = some (.loopo l)) (hs : l.state = .ready) (hsz : args.size = l.params.size) (hp : l.params.toList.all (· < l.N) = true)
      (h : AWp ⟨E.P, E.G, H.length, l.N, true⟩ l.assign (thenQ (fun F2 H2 => ∃ l2, H2[i]? = some (.loopo l2) ∧ l2.state = .ready ∧ l2.body = l.body ∧
        AWp ⟨E.P, E.G, H.length, l.N, true⟩ l.body (roundQ i K') F2 (H2.set i (.loopo { l2 with state := .busy }))) (fun _ _ _ => False)) (putAll l.F l.params.toList (args.toList.map (ev F))) H)

/-- The operations of a region, one after the other. -/
def AOps (E : Env) (ops : Array Oper) (Q : Frm → Heap → Prop) : List Oper → Frm → Heap → Prop
  | [], F, H => Q F H
  | o :: rest, F, H => ∃ w, gd ops F o.guard = some w ∧ (w = true → StepP E o F H (fun v H' => AOps E ops Q rest (put F o.dst v) H')) ∧ (w = false → AOps E ops Q rest (put F o.dst (.raw undef)) H)

def dstOk (N : Nat) (ops : List Oper) : Bool := ops.all fun o => match o.dst with | some d => d < N | none => true

def noDefer : Op → Bool
  | .defer _ => false
  | _ => true

theorem St.put {K : Kon} {C C' : Ctx} {N : Nat} {F : Frm} {a : Act} (h : St K C N F a) (e : Ext C C') (hp : Hp K C') {d : Option Tmp} (hd : ∀ x, d = some x → x < N) {v : AV} {u : Value} (hv : Vl C' v u) :
    St K C' N (put F d v) (a.put d u) where
  hp := hp
  size := by cases d <;> simp [Act.put, h.size]
  fr := by
    cases d with
    | none => exact h.fr.mono e
    | some d =>
      intro k x hx
      have hdN := hd d rfl
      simp only [Go.Ab.put, List.lookup_cons] at hx
      by_cases hk : k = d
      · subst hk
        simp at hx; subst hx
        have : ((a.put (some k) u).tmps).getD k undef = u := by simp [Act.put, h.size, hdN]
        rw [this]; exact hv
      · have hk' : (k == d) = false := by simpa using hk
        simp only [hk'] at hx
        have : ((a.put (some d) u).tmps).getD k undef = a.tmps.getD k undef := by simp [Act.put, Array.getElem?_setIfInBounds_ne (Ne.symm hk)]
        rw [this]; exact (h.fr k x hx).mono e
  marks := by cases d <;> exact h.marks.mono e

theorem callsIn_rnd {rb : Option Nat} {n : Nat} {P : Program} {f : FuncId} {args : Array Value} {w : World} {R : Ending → World → Prop} (h : CallsIn Fence.wide n P f args w R) : CallsIn (rnd rb) n P f args w R := h

theorem args_ok {C : Ctx} {F : Frm} {ρ : Operand → Value} (hρ : ∀ x, Vl C (ev F x) (ρ x)) {first caps : List AV} {fv cv : Array Value} (args : Array Operand)
    (h1 : fv.size = first.length) (h2 : cv.size = caps.length) (hf : ∀ k x, first[k]? = some x → Vl C x (fv.getD k undef)) (hc : ∀ k x, caps[k]? = some x → Vl C x (cv.getD k undef)) :
    ArgsOk C (first ++ args.toList.map (ev F) ++ caps) (fv ++ args.map ρ ++ cv) := by
  refine ⟨by simp; omega, fun k x hx => ?_⟩
  rcases Nat.lt_or_ge k first.length with hk | hk
  · rw [List.append_assoc, List.getElem?_append_left hk] at hx
    have e : (fv ++ args.map ρ ++ cv).getD k undef = fv.getD k undef := by
      simp [Array.append_assoc, Array.getElem?_append_left (show k < fv.size by omega)]
    rw [e]; exact hf k x hx
  · rcases Nat.lt_or_ge k (first.length + args.size) with hk2 | hk2
    · rw [List.getElem?_append_left (by simp; omega), List.getElem?_append_right hk] at hx
      simp only [List.getElem?_map, Option.map_eq_some_iff, Array.getElem?_toList] at hx
      obtain ⟨y, hy, rfl⟩ := hx
      have hl : k - first.length < args.size := by omega
      have hy' : args[k - first.length] = y := by rw [Array.getElem?_eq_getElem hl] at hy; exact Option.some.inj hy
      have e : (fv ++ args.map ρ ++ cv).getD k undef = ρ y := by
        rw [Array.getD_eq_getD_getElem?, Array.getElem?_append_left (by simp; omega), Array.getElem?_append_right (by omega)]
        simp [h1, hl, hy']
      rw [e]; exact hρ y
    · rw [List.getElem?_append_right (by simp; omega)] at hx
      have e : (fv ++ args.map ρ ++ cv).getD k undef = cv.getD (k - (first.length + args.size)) undef := by
        rw [Array.getD_eq_getD_getElem?, Array.getElem?_append_right (by simp; omega)]
        simp [h1]
      rw [e]; exact hc _ x (by simpa using hx)

theorem putAll_ok {C : Ctx} {N : Nat} : ∀ (ps : List Tmp) (xs : List AV) (us : List Value) (F : Frm) (t : Array Value), FrOk C F t → t.size = N → (∀ p ∈ ps, p < N) → us.length = xs.length → (∀ k x, xs[k]? = some x → Vl C x (us.getD k undef)) →
    FrOk C (putAll F ps xs) ((ps.zip us).foldl (fun t (x : Tmp × Value) => t.setIfInBounds x.1 x.2) t) ∧ ((ps.zip us).foldl (fun t (x : Tmp × Value) => t.setIfInBounds x.1 x.2) t).size = N
  | [], xs, us, F, t, hf, hs, _, _, _ => by simpa [putAll] using ⟨hf, hs⟩
  | p :: ps, [], us, F, t, hf, hs, _, hl, _ => by
    have : us = [] := List.length_eq_zero_iff.1 (by simpa using hl)
    subst this
    simpa [putAll] using ⟨hf, hs⟩
  | p :: ps, x :: xs, [], F, t, hf, hs, _, hl, _ => by simp at hl
  | p :: ps, x :: xs, u :: us, F, t, hf, hs, hp, hl, hx => by
    simp only [putAll, List.zip_cons_cons, List.foldl_cons]
    have hpN := hp p (by simp)
    refine putAll_ok ps xs us ((p, x) :: F) (t.setIfInBounds p u) (fun k y hy => ?_) (by simpa using hs) (fun q hq => hp q (by simp [hq])) (by simpa using hl) (fun k y hy => by simpa using hx (k + 1) y (by simpa using hy))
    simp only [List.lookup_cons] at hy
    by_cases hk : k = p
    · subst hk
      simp at hy; subst hy
      have := hx 0 x rfl
      simpa [hs, hpN] using this
    · have hk' : (k == p) = false := by simpa using hk
      simp only [hk'] at hy
      have : (t.setIfInBounds p u).getD k undef = t.getD k undef := by simp [Array.getElem?_setIfInBounds_ne (Ne.symm hk)]
      rw [this]; exact hf k y hy

/-- The record of a loop turns. -/
theorem loop_upd {K : Kon} {C : Ctx} (hp : Hp K C) {i b : Nat} {l : LoopA} {r : Loop} (hi : C.H[i]? = some (.loopo l)) (hb : C.β i = some b) (hr : C.w.heap[b]? = some (.loop r)) (st : LoopState) (pe : Option Code) :
    ∃ C', C'.w = C.w.putObj b (.loop { r with state := st, pending := pe }) ∧ Ext C C' ∧ Hp K C' ∧ C'.H = C.H.set i (.loopo { l with state := st, pending := pe }) := by
  have hil := get_lt hi
  obtain ⟨b', r', g1, g2, g3, g4, g5, g6, g7, g8, g9⟩ := hp.obj i _ hi
  rw [hb] at g1; cases g1
  rw [hr] at g2; cases g2
  have := hp.upd (C.w.putObj b (.loop { r with state := st, pending := pe })) i hil (.loopo { l with state := st, pending := pe }) (C.β i) (C.κ i) rfl rfl rfl (by simp)
    (fun b' _ hne => World.putObj_heap_other (fun hh => hne (by rw [hb, hh]))) (.inl rfl) _ rfl (by rw [hi])
    (fun ex => ⟨b, { r with state := st, pending := pe }, by simp [hb], World.putObj_heap_same (heap_lt hr), rfl, rfl, g5, g6, g7, g8, g9.mono ex⟩)
  exact ⟨_, rfl, this.1, this.2, rfl⟩

theorem step_ok {E : Env} {o : Oper} {F : Frm} {H : Heap} {K' : AV → Heap → Prop} (h : StepP E o F H K') (hnd : noDefer o.op = true) (hd : ∀ x, o.dst = some x → x < E.N)
    {K : Kon} {C : Ctx} {a : Act} (hG : K.G = E.G) (hst : St K C E.N F a) (hH : C.H = H) (Q : Exit → Act → World → Prop) :
    o.wpIn (rnd K.rb) 0 E.P a C.w (fun a' w' => ∃ v C', C'.w = w' ∧ St K C' E.N (put F o.dst v) a' ∧ K' v C'.H) Q := by
  refine ⟨fun _ _ => trivial, ?_⟩
  have hsem : o.semAt (rnd K.rb).round a.eval = execOp a.eval o := Oper.semAt_eq _ _ _ (fun c hc => by rw [hc] at hnd; cases hnd)
  rw [hsem]
  cases h with
  | op v H' h k =>
    obtain ⟨n, u, C', h1, h2, h3, h4, h5, h6⟩ := h K C a.eval o hG rfl hst.hp hH (ev_ok hst.fr)
    rw [h1]
    rcases h2 with rfl | ⟨rfl, rfl⟩
    · exact ⟨v, C', rfl, hst.put h3 h4 hd h5, h6 ▸ k⟩
    · exact ⟨v, C', rfl, hst.put h3 h4 hd h5, h6 ▸ k⟩
  | call g args tys f first caps R ho hg hc hr k =>
    have hv := hg ▸ ev_ok hst.fr g
    generalize hgv : a.eval g = gv at hv
    cases hv with
    | fn h1 h2 hf hcp =>
      rename_i fv cv
      have hrun : (execOp a.eval o).run E.P C.w = .ok (.enter f (fv ++ args.map a.eval ++ cv)) C.w := by
        simp only [execOp, ho, resolve, hgv, Deferred.ofValue, Sem.run_bind, Sem.run_pure, Result.andThen_ok, invoke, callable_run hc]
      rw [hrun]
      refine ⟨fun h => by simp [rnd, Fence.wide] at h, ?_⟩
      have := hr K C _ hG hH hst.hp (args_ok (ev_ok hst.fr) args h1 h2 hf hcp)
      refine callsIn_rnd (this.mono ?_)
      rintro e w' ⟨r, u, C', rfl, rfl, g1, g2, g3, g4⟩
      exact ⟨r, C', rfl, hst.put g1 g2 hd g3, k r _ g4⟩
  | yield g args tys i l ho hg hi hs hsz hpar h =>
    have hv := hg ▸ ev_ok hst.fr g
    generalize hgv : a.eval g = gv at hv
    subst hH
    cases hv with
    | yl hh hb =>
      rename_i b
      obtain ⟨b', r, g1, g2, g3, g4, g5, g6, g7, g8, g9⟩ := hst.hp.obj i _ hi
      rw [hb] at g1; cases g1
      have hasz : (args.map a.eval).size = r.params.size := by simp [g5, hsz]
      have hrun : (execOp a.eval o).run E.P C.w = .ok (.round b r.fn ((r.params.zip (args.map a.eval)).foldl (fun tmps (t, a) => tmps.setIfInBounds t a) r.tmps) r.assign r.body) C.w := by
        simp only [execOp, ho, resolve, hgv, Deferred.ofValue, Sem.run_bind, Sem.run_pure, Result.andThen_ok, invoke]
        rw [show (#[] ++ args.map a.eval : Array Value) = args.map a.eval by simp]
        exact run_yield g2 hasz
      rw [hrun]
      refine ⟨fun h => by simp [rnd, Fence.wide] at h, ?_⟩
      -- the round's own state
      obtain ⟨q1, q2⟩ := putAll_ok (C := C) (N := l.N) l.params.toList (args.toList.map (ev F)) (args.toList.map a.eval) l.F r.tmps g9 g8 (fun p hp => by simpa using List.all_eq_true.1 hpar p hp) (by simp) (fun k x hx => by
        simp only [List.getElem?_map, Option.map_eq_some_iff] at hx
        obtain ⟨y, hy, rfl⟩ := hx
        have : (args.toList.map a.eval).getD k undef = a.eval y := by simp [List.getD, hy]
        rw [this]; exact ev_ok hst.fr y)
      have htm : (r.params.zip (args.map a.eval)).foldl (fun tmps (x : Tmp × Value) => tmps.setIfInBounds x.1 x.2) r.tmps = (l.params.toList.zip (args.toList.map a.eval)).foldl (fun t (x : Tmp × Value) => t.setIfInBounds x.1 x.2) r.tmps := by
        rw [← Array.foldl_toList, Array.toList_zip, g5]; simp
      have hbase : Hp ⟨C, E.G, some b⟩ C := by rw [← hG]; exact { hst.hp.base with }
      have hst1 : St ⟨C, E.G, some b⟩ C l.N (putAll l.F l.params.toList (args.toList.map (ev F))) { tmps := (l.params.toList.zip (args.toList.map a.eval)).foldl (fun t (x : Tmp × Value) => t.setIfInBounds x.1 x.2) r.tmps, defers := [] } :=
        { hp := hbase, size := q2, fr := q1, marks := ⟨[], rfl, List.nodup_nil, fun D hD => by cases hD⟩ }
      have hcomp : ∀ C', Hp ⟨C, E.G, some b⟩ C' → Hp K C' := fun C' h' => by rw [← hG] at h'; exact hst.hp.comp h'
      have h1 := h ⟨C, E.G, some b⟩ C _ rfl rfl rfl hst1 rfl
      refine roundIn_of_wpIn trivial ?_
      rw [htm, g6, g7]
      refine wpIn_mono h1 ?_
      rintro e a1 w1 ⟨F2, C2, rfl, k1, k2⟩
      cases e with
      | normal =>
        obtain ⟨l2, m1, m2, m3, m4⟩ := k2
        have hβ2 : C2.β i = some b := (k1.hp.ext.loopo i l hi).2.trans hb
        obtain ⟨b2, r2, p1, p2, p3, p4, p5, p6, p7, p8, p9⟩ := k1.hp.obj i _ m1
        rw [hβ2] at p1; cases p1
        obtain ⟨C3, n1, n2, n3, n4⟩ := loop_upd k1.hp m1 hβ2 p2 .busy r2.pending
        refine ⟨C3.w, by rw [n1]; exact run_beginRound p2 (p3.trans m2), ?_⟩
        have hH3 : C3.H = C2.H.set i (.loopo { l2 with state := .busy }) := by rw [n4, p4]
        have hst3 : St ⟨C, E.G, some b⟩ C3 l.N F2 a1 := { hp := n3, size := k1.size, fr := k1.fr.mono n2, marks := k1.marks.mono n2 }
        refine wpIn_mono (m4 ⟨C, E.G, some b⟩ C3 a1 rfl rfl rfl hst3 hH3) ?_
        rintro e4 a4 w4 ⟨F4, C4, rfl, t1, t2⟩
        have hβ4 : C4.β i = some b := (t1.hp.ext.loopo i l hi).2.trans hb
        have close : ∀ (l4 : LoopA) (jump : Option Code) (bo : Bool), C4.H[i]? = some (.loopo l4) → bo = jump.isNone → K' (.raw (.bool bo)) (C4.H.set i (.loopo { l4 with state := if jump.isNone then .ready else .done, pending := jump })) →
            ∃ v w', (Instr.endRound b jump).run E.P C4.w = .ok v w' ∧ ∃ v' C', C'.w = w' ∧ St K C' E.N (Go.Ab.put F o.dst v') (a.put o.dst v) ∧ K' v' C'.H := by
          intro l4 jump bo s1 s2 s3
          obtain ⟨b5, r5, u1, u2, _⟩ := t1.hp.obj i _ s1
          rw [hβ4] at u1; cases u1
          obtain ⟨C5, v1, v2, v3, v4⟩ := loop_upd t1.hp s1 hβ4 u2 (if jump.isNone then .ready else .done) jump
          refine ⟨_, _, run_endRound jump u2, .raw (.bool bo), C5, v1, ?_, by rw [v4]; exact s3⟩
          have eC : Ext C C5 := v3.ext
          rw [s2]
          exact hst.put eC (hcomp C5 v3) hd (.raw _)
        cases e4 with
        | normal => obtain ⟨l4, s1, s2⟩ := t2; exact close l4 none true s1 rfl s2
        | ret => obtain ⟨l4, s1, s2⟩ := t2; exact close l4 (some .ret) false s1 rfl s2
        | exit id => obtain ⟨l4, s1, s2⟩ := t2; exact close l4 (some (.exit id)) false s1 rfl s2
        | goto t => exact t2.elim
        | panic ch => exact t2.elim
        | outgrown => exact t2.elim
      | exit id => exact k2.elim
      | goto t => exact k2.elim
      | ret => exact k2.elim
      | panic ch => exact k2.elim
      | outgrown => exact k2.elim

-- (the arm of yield stands in 'step_ok')
theorem Oper.wpIn_mono' {Fe : Fence} {n : Nat} {P : Program} {o : Oper} {a : Act} {w : World} {K1 K2 : Act → World → Prop} {Q : Exit → Act → World → Prop} (h : ∀ a w, K1 a w → K2 a w) (hh : o.wpIn Fe n P a w K1 Q) : o.wpIn Fe n P a w K2 Q := by
  refine ⟨hh.1, ?_⟩
  have := hh.2
  generalize (o.semAt Fe.round a.eval).run P w = r at *
  cases r with
  | ok nx w' =>
    cases nx <;> simp only [Oper.uponIn] at this ⊢ <;> first
      | exact h _ _ this
      | exact ⟨this.1, this.2.mono (fun e w'' he => by cases e <;> first | exact h _ _ he | exact he)⟩
      | exact ⟨this.1, this.2.mono (fun _ _ he => h _ _ he)⟩
      | exact this
  | halt x w' => cases x <;> simp only [Oper.uponIn] at this ⊢ <;> exact this

theorem aops_sound {E : Env} {ops : Array Oper} {Q : Frm → Heap → Prop} (hd : dstOk E.N ops.toList = true) (hnd : ops.toList.all (fun o => noDefer o.op) = true) {K : Kon} (hG : K.G = E.G) (Q' : Exit → Act → World → Prop)
    (hQ : ∀ a w, (∃ F' C', C'.w = w ∧ St K C' E.N F' a ∧ Q F' C'.H) → Q' .normal a w) :
    ∀ (l : List Oper) (i : Nat) (F : Frm) (C : Ctx) (a : Act), (∀ j, l[j]? = ops[i + j]?) → i + l.length = ops.size → AOps E ops Q l F C.H → St K C E.N F a →
      wpOpsIn (rnd K.rb) 0 E.P ops Q' (List.range' i l.length) a C.w
  | [], i, F, C, a, _, _, h, hst => hQ _ _ ⟨F, C, rfl, hst, h⟩
  | o :: l, i, F, C, a, hl, hs, h, hst => by
    have ho : ops[i]? = some o := by simpa using (hl 0).symm
    obtain ⟨w, hw, ht, hf⟩ := h
    have hmem : o ∈ ops.toList := by
      rw [← Array.getElem?_toList] at ho; exact List.mem_of_getElem? ho
    have hdo : ∀ x, o.dst = some x → x < E.N := fun x hx => by
      have := List.all_eq_true.1 hd o hmem
      rw [hx] at this; simpa using this
    have hno := List.all_eq_true.1 hnd o hmem
    simp only [List.length_cons, List.range'_succ, wpOpsIn, ho]
    rw [gd_ok hst.fr hw]
    have go1 : ∀ (F : Frm) (C : Ctx) (a : Act), AOps E ops Q l F C.H → St K C E.N F a → wpOpsIn (rnd K.rb) 0 E.P ops Q' (List.range' (i + 1) l.length) a C.w :=
      fun F C a h hst => aops_sound hd hnd hG Q' hQ l (i + 1) F C a (fun j => by have := hl (j + 1); simpa [Nat.add_assoc, Nat.add_comm 1 j] using this) (by simp at hs; omega) h hst
    cases w with
    | true =>
      simp only [if_true]
      refine Oper.wpIn_mono' ?_ (step_ok (ht rfl) hno hdo hG hst rfl Q')
      rintro a' w' ⟨v, C', rfl, g1, g2⟩
      exact go1 _ C' a' g2 g1
    | false =>
      simp only [Bool.false_eq_true, if_false]
      exact ⟨fun _ _ => trivial, go1 _ C _ (hf rfl) (hst.put (Ext.refl C) hst.hp hdo (.raw undef))⟩

theorem awp_region {E : Env} {Q : Exit → Frm → Heap → Prop} {F : Frm} {H : Heap} {id : Nat} {ops : Array Oper} (hd : dstOk E.N ops.toList = true) (hnd : ops.toList.all (fun o => noDefer o.op) = true)
    (h : AOps E ops (Q .normal) ops.toList F H) : AWp E (.region id ops false) Q F H := by
  intro K C a h1 h2 h3 h4 h5
  subst h5
  refine wpIn_region ?_
  have := aops_sound hd hnd h3 (post K E.N Q) (fun a w h => h) ops.toList 0 F C a (by simp) (by simp) h h4
  rw [List.range_eq_range']
  simpa using this

end Go.Ab
