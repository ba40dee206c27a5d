/- A program logic over the model: contracts of calls, proved from the model alone, without conditions. -/
import Derived.Test.YtghoaglolhdoeaaDoorAb3
import Derived.RangeFuncRecord
set_option linter.unusedSimpArgs false
set_option linter.unusedVariables false
namespace Go.Ab
open Go

theorem Hp.mark {K : Kon} {C : Ctx} (h : Hp K C) {D : Nat} (hD : C.w.heap[D]? = some (.deferred (some []))) (hb : ¬ C.bad D) (hs : K.C0.w.heap.size ≤ D) :
    ExtW C { C with w := C.w.putObj D (.deferred none) } ∧ Hp K { C with w := C.w.putObj D (.deferred none) } := by
  have e : ExtW C { C with w := C.w.putObj D (.deferred none) } :=
    { len := Nat.le_refl _
      pers := fun b h1 _ h3 => ⟨World.putObj_heap_other (fun hh => h3 _ (hh ▸ hD)), h1⟩
      var := fun _ cs h => ⟨⟨cs, h⟩, rfl⟩, mapo := fun _ cs h => ⟨⟨cs, h⟩, rfl⟩, loopo := fun _ cs h => ⟨⟨cs, h⟩, rfl⟩
      vec := fun _ _ v' es' _ h => ⟨v', es', h, Nat.le_refl _, fun _ => ⟨Nat.le_refl _, rfl, rfl⟩⟩ }
  refine ⟨e, ?_⟩
  exact
    { X := h.X, xown := h.xown, xlt := h.xlt, inj := h.inj, lt := fun i b hi hb => by simpa using h.lt i b hi hb
      obj := fun i o ho => (h.obj i o ho).monoW e rfl rfl (fun b hb' => World.putObj_heap_other (fun hh => hb (.inr ⟨i, get_lt ho, hh ▸ hb'⟩)))
      ext := { len := h.ext.len, pers := fun b h1 h2 => ⟨(World.putObj_heap_other (by omega)).trans (h.ext.pers b h1 h2).1, (h.ext.pers b h1 h2).2⟩, var := h.ext.var, mapo := h.ext.mapo, loopo := h.ext.loopo, vec := h.ext.vec }
      os := h.os, tape := h.tape, output := h.output, size := by simpa using h.size
      same := fun b h1 h2 => (World.putObj_heap_other (by omega)).trans (h.same b h1 h2), ownn := h.ownn, glob := fun g cs hg => (h.glob g cs hg).monoW e }

def ArgsOk (C : Ctx) (args : List AV) (vs : Array Value) : Prop := vs.size = args.length ∧ ∀ k x, args[k]? = some x → Vl C x (vs.getD k undef)

/-- Called with these data in this memory the function ends in R. -/
def ACall (P : Program) (G : List (Nat × List Value)) (f : FuncId) (args : List AV) (H : Heap) (R : AV → Heap → Prop) : Prop :=
  ∀ (C : Ctx) (vs : Array Value), C.H = H → Hp ⟨C, G, none⟩ C → ArgsOk C args vs →
    CallsIn Fence.wide 0 P f vs C.w (fun e w' => ∃ r v C', e = .returned v ∧ C'.w = w' ∧ Hp ⟨C, G, none⟩ C' ∧ Vl C' r v ∧ R r C'.H)

theorem ACall.mono {P : Program} {G : List (Nat × List Value)} {f : FuncId} {args : List AV} {H : Heap} {R R' : AV → Heap → Prop} (h : ACall P G f args H R)
    (hr : ∀ r H', R r H' → R' r H') : ACall P G f args H R' :=
  fun C vs h1 h2 h3 => (h C vs h1 h2 h3).mono fun e w' ⟨r, v, C', a, b, c, d, g⟩ => ⟨r, v, C', a, b, c, d, hr _ _ g⟩

def argsFrm : Nat → List AV → Frm
  | _, [] => []
  | n, x :: xs => (n, x) :: argsFrm (n + 1) xs

theorem argsFrm_lookup : ∀ (n : Nat) (xs : List AV) (k : Nat) (x : AV), (argsFrm n xs).lookup k = some x → n ≤ k ∧ xs[k - n]? = some x
  | _, [], k, x, h => by simp [argsFrm] at h
  | n, y :: ys, k, x, h => by
    simp only [argsFrm, List.lookup_cons] at h
    split at h
    · rename_i hk
      have : k = n := by simpa using hk
      subst this
      cases h
      exact ⟨Nat.le_refl _, by simp⟩
    · rename_i hk
      have hne : k ≠ n := by simpa using hk
      obtain ⟨h1, h2⟩ := argsFrm_lookup (n + 1) ys k x h
      refine ⟨by omega, ?_⟩
      rw [show k - n = (k - (n + 1)) + 1 by omega]
      simpa using h2

theorem leave_marks {K : Kon} {P : Program} {fn : Func} {tmps : Array Value} {F : Frm} {R : AV → Heap → Prop} {H : Heap} {r : AV} (hres : resOf P fn F H = some r) (hR : R r H) :
    ∀ (Ds : List Nat) (C : Ctx), C.H = H → Hp K C → FrOk C F tmps → Ds.Nodup →
      (∀ D ∈ Ds, C.w.heap[D]? = some (.deferred (some [])) ∧ ¬ C.bad D ∧ K.C0.w.heap.size ≤ D) →
      LeavesInM Fence.wide 0 P fn tmps (fun e w' => ∃ r v C', e = .returned v ∧ C'.w = w' ∧ Hp K C' ∧ Vl C' r v ∧ R r C'.H)
        (Ds.map (fun D => { target := .collected D, args := #[] })) .returning C.w
  | [], C, hH, hp, hf, _, _ => by
    subst hH
    obtain ⟨v, h1, h2⟩ := resOf_ok (P := P) hp hf hres
    exact ⟨v, h1, r, v, C, rfl, rfl, hp, h2, hR⟩
  | D :: Ds, C, hH, hp, hf, hn, hall => by
    obtain ⟨h1, h2, h3⟩ := hall D (by simp)
    obtain ⟨e, hp'⟩ := hp.mark h1 h2 h3
    have hn' := List.nodup_cons.1 hn
    refine ⟨by simp, .inl ⟨D, C.w.putObj D (.deferred none), rfl, run_takeDeferred h1, ?_⟩⟩
    exact leave_marks hres hR Ds { C with w := C.w.putObj D (.deferred none) } hH hp' (hf.monoW e) hn'.2 (fun D' hD' => by
      obtain ⟨g1, g2, g3⟩ := hall D' (by simp [hD'])
      exact ⟨(World.putObj_heap_other (fun (hh : D' = D) => hn'.1 (by rw [← hh]; exact hD'))).trans g1, g2, g3⟩)

theorem acall_of_body {P : Program} {G : List (Nat × List Value)} {f : FuncId} {fn : Func} {c : Code} {args : List AV} {H : Heap} {R : AV → Heap → Prop}
    (hf : P.funcs[f]? = some fn) (hb : fn.body = some c) (hn : args.length ≤ fn.ntmps)
    (h : AWp ⟨P, G, H.length, fn.ntmps, false⟩ c (retQ P fn R) (argsFrm 0 args) H) : ACall P G f args H R := by
  intro C vs hH hp hargs
  subst hH
  refine callsIn_of_wp_marks hf hb trivial ?_
  have hst : St ⟨C, G, none⟩ C fn.ntmps (argsFrm 0 args) { tmps := vs ++ Array.replicate (fn.ntmps - vs.size) undef, defers := [] } :=
    { hp := hp
      size := by have := hargs.1; simp; omega
      fr := fun k x hx => by
        obtain ⟨_, hk⟩ := argsFrm_lookup 0 args k x hx
        simp only [Nat.sub_zero] at hk
        have hl := get_lt hk
        have := hargs.2 k x hk
        have hs := hargs.1
        have e1 : (vs ++ Array.replicate (fn.ntmps - vs.size) undef).getD k undef = vs.getD k undef := by
          have h1 : k < vs.size := by omega
          simp [Array.getElem?_append_left h1]
        rw [e1]; exact this
      marks := ⟨[], rfl, List.nodup_nil, fun D hD => by cases hD⟩ }
  refine wpIn_mono (h ⟨C, G, none⟩ C _ rfl rfl rfl hst rfl) ?_
  rintro e a' w' ⟨F', C', rfl, g2, g3⟩
  obtain ⟨Ds, hds, hnd, hall⟩ := g2.marks
  have key : ∀ r, resOf P fn F' C'.H = some r → R r C'.H → LeavesInM Fence.wide 0 P fn a'.tmps (fun e w' => ∃ r v C', e = .returned v ∧ C'.w = w' ∧ Hp ⟨C, G, none⟩ C' ∧ Vl C' r v ∧ R r C'.H) a'.defers .returning C'.w := by
    intro r h1 h2
    rw [hds]
    exact leave_marks h1 h2 Ds C' rfl g2.hp g2.fr hnd hall
  cases e with
  | normal => obtain ⟨r, h1, h2⟩ := g3; exact key r h1 h2
  | ret => obtain ⟨r, h1, h2⟩ := g3; exact key r h1 h2
  | exit id => exact g3.elim
  | goto l => exact g3.elim
  | panic ch => exact g3.elim
  | outgrown => exact g3.elim

end Go.Ab
