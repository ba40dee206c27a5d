/- A program logic over the model: contracts of calls, proved from the model alone, without conditions. -/
import Derived.Test.YtghoaglolhdoeaaDoorAb2
import Derived.Laws.Cells
import Derived.Laws.CopyRow
set_option linter.unusedSimpArgs false
set_option linter.unusedVariables false
namespace Go.Ab
open Go

def tagg (P : Program) (t : TypeId) : Option Bool :=
  (P.underlying t).map fun | .struct _ => true | .array _ _ => true | _ => false
def tsize (P : Program) (t : TypeId) : Option Nat := (P.info? t).map (·.size)

def rdCells (H : Heap) (a : AV) (n : Nat) : Option (List AV) :=
  match a with
  | .ptr i off => match H[i]? with
    | some (.var cs) => if off + n ≤ cs.length then some ((cs.drop off).take n) else none
    | _ => none
  | .pel i ver j off => match H[i]? with
    | some (.vec _ v es) => if v = ver then match es[j]? with
        | some e => if off + n ≤ e.cells.length then some ((e.cells.drop off).take n) else none
        | none => none
      else none
    | _ => none
  | .rp cs => if n ≤ cs.length then some (cs.take n) else none
  | _ => none

theorem add_none (b o k : Nat) : (⟨b, o, none⟩ : Addr).add k = ⟨b, o + k, none⟩ := by
  unfold Addr.add; split <;> simp_all

theorem cell_cells {w : World} {b : Nat} {c : Array Value} {e : TypeId} {f : Nat × Nat} (h : w.heap[b]? = some (.cells c e f)) {o : Nat} (ho : o < c.size) :
    w.cell? ⟨b, o, none⟩ = some (c.getD o undef) := by
  unfold World.cell?; simp [h, ho]

theorem flat_length {z : Nat} {es : List AV} (h : ∀ e ∈ es, e.cells.length = z) : (flat es).length = es.length * z := by
  induction es with
  | nil => simp [flat]
  | cons e es ih =>
    have h1 := h e (by simp)
    have h2 := ih (fun x hx => h x (by simp [hx]))
    unfold flat at h2 ⊢
    rw [List.flatMap_cons, List.length_append, h2, h1, List.length_cons]
    rw [Nat.add_mul]; omega

theorem flat_get {z : Nat} : ∀ {es : List AV}, (∀ e ∈ es, e.cells.length = z) → ∀ {j : Nat} {e : AV}, es[j]? = some e → ∀ {k : Nat}, k < z → (flat es)[j * z + k]? = e.cells[k]?
  | [], _, j, e, h, k, hk => by simp at h
  | x :: es, hz, j, e, h, k, hk => by
    have hx := hz x (by simp)
    simp only [flat, List.flatMap_cons]
    cases j with
    | zero => simp at h; subst h; rw [List.getElem?_append_left (by omega)]; simp
    | succ j =>
      simp at h
      rw [List.getElem?_append_right (by rw [Nat.add_mul]; omega)]
      have := flat_get (es := es) (fun y hy => hz y (by simp [hy])) h hk
      simp only [flat] at this
      rw [← this]
      congr 1
      rw [Nat.add_mul]; omega

theorem rdCells_ok {K : Kon} {C : Ctx} (hp : Hp K C) {a : AV} {v : Value} (hv : Vl C a v) {n : Nat} {cs : List AV} (h : rdCells C.H a n = some cs) :
    ∃ b o, v = .pointer (some ⟨b, o, none⟩) ∧ cs.length = n ∧ ∀ k x, cs[k]? = some x → ∃ u, C.w.cell? ⟨b, o + k, none⟩ = some u ∧ Vl C x u := by
  cases hv with
  | ptr hh hb =>
    rename_i i off b
    obtain ⟨cs0, hh⟩ := hh
    simp only [rdCells, hh] at h
    split at h <;> simp at h
    rename_i hle
    subst h
    obtain ⟨b', c, e, h1, h2, h3, h4⟩ := hp.obj i _ hh
    rw [hb] at h1; cases h1
    refine ⟨b, off, rfl, by simp; omega, fun k x hx => ?_⟩
    have hk : k < n := by have := get_lt hx; simp at this; omega
    rw [List.getElem?_take_of_lt hk, List.getElem?_drop] at hx
    exact ⟨_, cell_cells h2 (by omega), h4 _ _ hx⟩
  | pel hi hv hh =>
    rename_i i ver j off
    simp only [rdCells] at h
    split at h
    · rename_i z vv es hes
      split at h
      · rename_i hver
        subst hver
        split at h
        · rename_i e he
          split at h <;> simp at h
          rename_i hle
          subst h
          obtain ⟨hj, b, hb, rfl⟩ := hh _ _ hes
          obtain ⟨h0, h1, h2, h3⟩ := hp.obj i _ hes
          rcases h3 with h3 | ⟨b', c, t, h4, h5, h6, h7⟩
          · rw [hb] at h3; cases h3.1
          rw [hb] at h4; cases h4
          have hz := h1 e (List.mem_of_getElem? he)
          refine ⟨b, j * z + off, rfl, by simp; omega, fun k x hx => ?_⟩
          have hk : k < n := by have := get_lt hx; simp at this; omega
          rw [List.getElem?_take_of_lt hk, List.getElem?_drop] at hx
          have hfl : (flat es)[j * z + (off + k)]? = some x := (flat_get h1 he (by omega)).trans hx
          have hl : j * z + (off + k) < c.size := by
            have h8 := get_lt hfl
            have hf := flat_length h1
            have : es.length * z ≤ C.κ i * z := Nat.mul_le_mul_right z h2
            omega
          rw [Nat.add_assoc]
          exact ⟨_, cell_cells h5 hl, h7 _ _ hfl⟩
        · cases h
      · cases h
    · cases h
  | rp g hb hs hc hx =>
    rename_i cs0 b off
    simp only [rdCells] at h
    split at h <;> simp at h
    rename_i hle
    subst h
    refine ⟨b, off, rfl, by simp; omega, fun k x hx' => ?_⟩
    have hk : k < n := by have := get_lt hx'; simp at this; omega
    rw [List.getElem?_take_of_lt hk] at hx'
    exact ⟨_, hc k (by omega), hx _ _ hx'⟩
  | _ => simp [rdCells] at h

def rdVar (P : Program) (t : TypeId) (H : Heap) (a : AV) : Option AV :=
  match tagg P t with
  | some true => match tsize P t with
    | some n => (rdCells H a n).map .agg
    | none => none
  | some false => (rdCells H a 1).bind (·[0]?)
  | none => none

theorem tagg_run {P : Program} {t : TypeId} {g : Bool} (h : tagg P t = some g) (w : World) : (isAgg t).run P w = .ok g w := by
  unfold tagg at h
  cases hu : P.underlying t with
  | none => simp [hu] at h
  | some d =>
    simp [hu] at h
    unfold isAgg
    rw [Sem.run_bind, run_underlying hu w]
    cases d <;> simp_all

theorem tsize_run {P : Program} {t : TypeId} {n : Nat} (h : tsize P t = some n) (w : World) : (sizeOf t).run P w = .ok n w := by
  unfold tsize at h
  cases hi : P.info? t with
  | none => simp [hi] at h
  | some i => simp [hi] at h; simp [sizeOf, typeInfo, hi, h]

theorem rdVar_ok {P : Program} {t : TypeId} {K : Kon} {C : Ctx} (hp : Hp K C) {a : AV} {v : Value} (hv : Vl C a v) {x : AV} (h : rdVar P t C.H a = some x) :
    ∃ b o u, v = .pointer (some ⟨b, o, none⟩) ∧ (loadVar t ⟨b, o, none⟩).run P C.w = .ok u C.w ∧ Vl C x u := by
  unfold rdVar at h
  split at h
  · rename_i hg
    split at h
    · rename_i n hn
      rw [Option.map_eq_some_iff] at h
      obtain ⟨cs, hcs, rfl⟩ := h
      obtain ⟨b, o, rfl, hl, hc⟩ := rdCells_ok hp hv hcs
      have hf : ∀ j, j < n → ∃ u, C.w.cell? ⟨b, o + j, none⟩ = some u ∧ ∀ x, cs[j]? = some x → Vl C x u := fun j hj => by
        obtain ⟨u, h1, h2⟩ := hc j _ (List.getElem?_eq_getElem (by omega))
        exact ⟨u, h1, fun x hx => by rw [List.getElem?_eq_getElem (by omega)] at hx; cases hx; exact h2⟩
      let f : Nat → Value := fun j => (C.w.cell? ⟨b, o + j, none⟩).getD undef
      have hrun := run_loadCells (P := P) C.w ⟨b, o, none⟩ n f (fun j hj => by
        rw [add_none]; obtain ⟨u, h1, _⟩ := hf j hj; simp [f, h1])
      refine ⟨b, o, .agg ((List.range n).map f).toArray, rfl, ?_, .agg (by simp [hl]) (fun k x hx => ?_)⟩
      · simp [loadVar, tagg_run hg, tsize_run hn, hrun]
      · have hk : k < n := by have := get_lt hx; omega
        obtain ⟨u, h1, h2⟩ := hf k hk
        have : (((List.range n).map f).toArray.getD k undef) = u := by simp [hk, f, h1]
        rw [this]; exact h2 x hx
    · cases h
  · rename_i hg
    rw [Option.bind_eq_some_iff] at h
    obtain ⟨cs, hcs, h⟩ := h
    obtain ⟨b, o, rfl, hl, hc⟩ := rdCells_ok hp hv hcs
    obtain ⟨u, h1, h2⟩ := hc 0 x h
    exact ⟨b, o, u, rfl, by simp [loadVar, tagg_run hg, show (C.w.cell? ⟨b, o, none⟩) = some u from h1], h2⟩
  · cases h

/-- The results of a function, as data. -/
def resVar (P : Program) (F : Frm) (H : Heap) : ResultVar → Option AV
  | .tmp t => some (ev F (.tmp t))
  | .cell a t => rdVar P t H (ev F (.tmp a))

def resList (P : Program) (F : Frm) (H : Heap) : List ResultVar → Option (List AV)
  | [] => some []
  | r :: rs => match resVar P F H r, resList P F H rs with
    | some x, some xs => some (x :: xs)
    | _, _ => none

def resOf (P : Program) (fn : Func) (F : Frm) (H : Heap) : Option AV :=
  match resList P F H fn.results.toList with
  | some [x] => some x
  | some xs => some (.tup xs)
  | none => none

def retQ (P : Program) (fn : Func) (R : AV → Heap → Prop) : Exit → Frm → Heap → Prop
  | .normal, F, H | .ret, F, H => ∃ r, resOf P fn F H = some r ∧ R r H
  | _, _, _ => False

def rOne (tmps : Array Value) : ResultVar → Sem Value
  | .tmp t => pure (tmps.getD t undef)
  | .cell a t => do loadVar t (← asAddr (tmps.getD a undef))

theorem results_eq (fn : Func) (tmps : Array Value) :
    results fn tmps = (do let vs ← fn.results.mapM (rOne tmps); pure (if h : vs.size = 1 then vs[0] else .tuple vs)) := by
  rfl

theorem resList_ok {P : Program} {K : Kon} {C : Ctx} (hp : Hp K C) {F : Frm} {tmps : Array Value} (hf : FrOk C F tmps) :
    ∀ (rs : List ResultVar) (xs : List AV), resList P F C.H rs = some xs →
    ∃ vs : List Value, (rs.mapM (rOne tmps)).run P C.w = .ok vs C.w ∧
      vs.length = xs.length ∧ ∀ k x, xs[k]? = some x → Vl C x (vs.getD k undef)
  | [], xs, h => by simp [resList] at h; subst h; exact ⟨[], by simp, rfl, fun k x hx => by simp at hx⟩
  | r :: rs, xs, h => by
    simp only [resList] at h
    split at h <;> simp at h
    rename_i x xs' hr hrs
    subst h
    obtain ⟨vs, h1, h2, h3⟩ := resList_ok hp hf rs xs' hrs
    have hone : ∃ u, (rOne tmps r).run P C.w = .ok u C.w ∧ Vl C x u := by
      cases r with
      | tmp t =>
        simp only [resVar] at hr; cases hr
        exact ⟨_, rfl, ev_ok (a := { tmps := tmps, defers := [] }) hf (.tmp t)⟩
      | cell a t =>
        simp only [resVar] at hr
        obtain ⟨b, o, u, h1, h2, h3⟩ := rdVar_ok (P := P) hp (ev_ok (a := { tmps := tmps, defers := [] }) hf (.tmp a)) hr
        have h1' : tmps.getD a undef = .pointer (some ⟨b, o, none⟩) := h1
        refine ⟨u, ?_, h3⟩
        simp only [rOne, h1', Sem.run_bind, asAddr, Sem.run_pure, Result.andThen_ok]
        exact h2
    obtain ⟨u, hu1, hu2⟩ := hone
    refine ⟨u :: vs, ?_, by simp [h2], fun k y hy => ?_⟩
    · simp only [List.mapM_cons, Sem.run_bind, hu1, Result.andThen_ok, h1, Sem.run_pure]
    · cases k with
      | zero => simp at hy; subst hy; simpa using hu2
      | succ k => simp at hy; simpa using h3 k y hy

theorem resOf_ok {P : Program} {fn : Func} {K : Kon} {C : Ctx} (hp : Hp K C) {F : Frm} {tmps : Array Value} (hf : FrOk C F tmps) {r : AV} (h : resOf P fn F C.H = some r) :
    ∃ v, (results fn tmps).run P C.w = .ok v C.w ∧ Vl C r v := by
  unfold resOf at h
  have key : ∀ xs, resList P F C.H fn.results.toList = some xs → ∃ vs : List Value, (results fn tmps).run P C.w = .ok (if h : vs.toArray.size = 1 then vs.toArray[0] else .tuple vs.toArray) C.w ∧
      vs.length = xs.length ∧ ∀ k x, xs[k]? = some x → Vl C x (vs.getD k undef) := by
    intro xs hxs
    obtain ⟨vs, h1, h2, h3⟩ := resList_ok (P := P) hp hf _ _ hxs
    refine ⟨vs, ?_, h2, h3⟩
    rw [results_eq, Sem.run_bind]
    have : (fn.results.mapM (rOne tmps)).run P C.w = .ok vs.toArray C.w := by
      rw [Array.mapM_eq_mapM_toList, Sem.run_map, h1]
      rfl
    rw [this]
    rfl
  split at h
  · rename_i x hx
    cases h
    obtain ⟨vs, h1, h2, h3⟩ := key _ hx
    match vs, h2 with
    | [v], _ => exact ⟨v, by simpa using h1, by simpa using h3 0 r rfl⟩
  · rename_i xs hne hx
    cases h
    obtain ⟨vs, h1, h2, h3⟩ := key _ hx
    have hl : vs.length ≠ 1 := fun hl => by
      rw [h2] at hl
      match xs, hl with
      | [x], _ => exact hne x rfl
    refine ⟨.tuple vs.toArray, by simpa [hl] using h1, .tup (by simp [h2]) (fun k x hx => by simpa [List.getD] using h3 k x hx)⟩
  · cases h

end Go.Ab
