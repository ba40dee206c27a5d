/- A program logic over the model: contracts of calls, proved from the model alone, without conditions. -/
import Derived.Test.YtghoaglolhdoeaaDoorAb14
set_option linter.unusedSimpArgs false
set_option linter.unusedVariables false
namespace Go.Ab
open Go

/-- What follows a range over a function: as the loop's record says. -/
def afterLoop (E : Env) (Q : Exit → Frm → Heap → Prop) (F : Frm) (i : Nat) (H : Heap) : Prop :=
  ∃ l, H[i]? = some (.loopo l) ∧ l.state ≠ .busy ∧
    match l.pending with
    | none => Q .normal F (H.set i (.loopo { l with state := .exhausted }))
    | some c => AWp E c Q F (H.set i (.loopo { l with state := .exhausted }))

theorem awp_rangeFunc {E : Env} {Q : Exit → Frm → Heap → Prop} {F : Frm} {H : Heap} {g : Operand} {ps : Array Tmp} {assign body : Code} {gf : FuncId} {first caps : List AV} {R : AV → Heap → Prop}
    (hrd : E.rd = false) (hg : ev F g = .fn gf first caps) (hc : callable E.P gf = true)
    (hr : CallS E.P E.G gf (first ++ [.yl H.length] ++ caps) (H ++ [.loopo { state := .ready, pending := none, F := F, N := E.N, params := ps, assign := assign, body := body }]) R)
    (h : ∀ r H', R r H' → afterLoop E Q F H.length H') : AWp E (.rangeFunc g ps assign body) Q F H := by
  intro K C a h1 h2 h3 h4 h5
  subst h5
  have hrb : K.rb = none := by rw [hrd] at h2; cases hq : K.rb <;> simp [hq] at h2 ⊢
  rw [hrb]
  refine wpIn_rangeFunc ?_
  intro fn _
  have hv := hg ▸ ev_ok h4.fr g
  generalize hgv : a.eval g = gv at hv
  cases hv with
  | fn k1 k2 hf hcp =>
    rename_i fv cv
    -- the block for deferred calls
    obtain ⟨e1, hp1⟩ := h4.hp.world (C.w.alloc (.deferred (some []))) rfl rfl rfl (by simp) (fun b hb => heap_alloc_old C.w _ b hb)
    generalize hC1 : ({ C with w := C.w.alloc (.deferred (some [])) } : Ctx) = C1 at e1 hp1
    have hC1w : C1.w = C.w.alloc (.deferred (some [])) := by rw [← hC1]
    have hC1H : C1.H = C.H := by rw [← hC1]
    have hC1sz : C1.w.heap.size = C.w.heap.size + 1 := by rw [hC1w]; simp
    -- the record
    let rec1 : Loop := { state := .ready, pending := none, fn, tmps := a.tmps, params := ps, assign, body, defers := C.w.heap.size }
    have hpush := hp1.push (C1.w.alloc (.loop rec1)) (.loopo { state := .ready, pending := none, F := F, N := E.N, params := ps, assign := assign, body := body }) 0 rfl rfl rfl (by simp) (fun b hb => heap_alloc_old C1.w _ b hb) _ rfl
      (fun ex => ⟨C1.w.heap.size, rec1, by simp, World.alloc_heap_new C1.w _, rfl, rfl, rfl, rfl, rfl, h4.size, (h4.fr.mono e1).mono ex⟩)
    obtain ⟨e2, hp2⟩ := hpush
    generalize hC2 : ({ C1 with w := C1.w.alloc (.loop rec1), H := C1.H ++ [.loopo { state := .ready, pending := none, F := F, N := E.N, params := ps, assign := assign, body := body }], β := fun j => if j = C1.H.length then some C1.w.heap.size else C1.β j, κ := fun j => if j = C1.H.length then 0 else C1.κ j } : Ctx) = C2 at e2 hp2
    have hC2w : C2.w = (C.w.alloc (.deferred (some []))).alloc (.loop rec1) := by rw [← hC2, ← hC1w]
    have hC2H : C2.H = C.H ++ [.loopo { state := .ready, pending := none, F := F, N := E.N, params := ps, assign := assign, body := body }] := by rw [← hC2, ← hC1H]
    have hC2i : C2.H[C.H.length]? = some (.loopo { state := .ready, pending := none, F := F, N := E.N, params := ps, assign := assign, body := body }) := by rw [hC2H]; simp
    have hC2β : C2.β C.H.length = some (C.w.heap.size + 1) := by rw [← hC2, ← hC1H, ← hC1sz]; simp
    have e12 := e1.trans e2
    have hD : C1.w.heap[C.w.heap.size]? = some (.deferred (some [])) := by rw [hC1w]; exact World.alloc_heap_new C.w _
    have hDb : ¬ C1.bad C.w.heap.size := fun hbad => by
      have hb0 : C.bad C.w.heap.size := by rw [← hC1] at hbad; exact hbad
      rcases hb0 with h | ⟨i, hi, h⟩
      · have h8 : C.w.heap.size < K.C0.w.heap.size := h4.hp.xlt _ h
        have := h4.hp.size; omega
      · have h8 : C.w.heap.size < C.w.heap.size := h4.hp.lt i _ hi h
        omega
    obtain ⟨Ds, d1, d2, d3⟩ := h4.marks
    have hm1 : Marks K C1 ({ target := .collected C.w.heap.size, args := #[] } :: a.defers) := by
      refine ⟨C.w.heap.size :: Ds, by simp [d1], List.nodup_cons.2 ⟨fun hmem => ?_, d2⟩, fun D hDm => ?_⟩
      · have := heap_lt (d3 _ hmem).1; omega
      · rcases List.mem_cons.1 hDm with rfl | hDm
        · exact ⟨hD, hDb, h4.hp.size⟩
        · obtain ⟨x1, x2, x3⟩ := d3 D hDm
          have := e1.pers D x2 (heap_lt x1)
          exact ⟨this.1.trans x1, this.2, x3⟩
    have hargs : ArgsOk C2 (first ++ [.yl C.H.length] ++ caps) (fv ++ #[.func (.yield (C.w.heap.size + 1)) #[] #[]] ++ cv) := by
      have hfr : FrOk C2 [(0, .yl C.H.length)] ({ tmps := #[.func (.yield (C.w.heap.size + 1)) #[] #[]], defers := [] } : Act).tmps := fun k x hx => by
        simp only [List.lookup_cons, List.lookup_nil] at hx
        split at hx
        · rename_i hk
          have : k = 0 := by simpa using hk
          subst this
          cases hx
          exact .yl ⟨_, hC2i⟩ hC2β
        · cases hx
      have := args_ok (ev_ok hfr) (first := first) (caps := caps) (fv := fv) (cv := cv) #[.tmp 0] k1 k2 (fun k x hx => (hf k x hx).mono e12) (fun k x hx => (hcp k x hx).mono e12)
      simpa [ev, List.lookup, Act.eval] using this
    have hcall := hr K C2 _ h3 hC2H hp2 hargs
    refine ⟨C.w.heap.size + 1, [{ target := .collected C.w.heap.size, args := #[] }], C2.w, { target := .fn (.func gf) cv, args := fv ++ #[.func (.yield (C.w.heap.size + 1)) #[] #[]] }, C2.w, gf, fv ++ #[.func (.yield (C.w.heap.size + 1)) #[] #[]] ++ cv, C2.w, ?_, ?_, fun _ _ => trivial, ?_, fun h => by simp [rnd, Fence.wide] at h, ?_⟩
    · rw [hC2w]; exact run_enterLoop_outer _ _ _ _ _
    · simp only [resolve, rangeCall, hgv, Deferred.ofValue, Sem.run_pure]
      simp [Act.eval]
    · simp only [invoke, callable_run hc]
    · refine callsIn_rnd (hcall.mono ?_)
      rintro e w' ⟨r, v, C3, rfl, rfl, e3, hp3, hvr, hR⟩
      obtain ⟨l, m1, m2, m3⟩ := h r C3.H hR
      have hβ3 : C3.β C.H.length = some (C.w.heap.size + 1) := (e3.loopo C.H.length _ hC2i).2.trans hC2β
      obtain ⟨b, rr, p1, p2, p3, p4, p5, p6, p7, p8, p9⟩ := hp3.obj _ _ m1
      rw [hβ3] at p1; cases p1
      obtain ⟨C4, n1, n2, n3, n4⟩ := loop_upd hp3 m1 hβ3 p2 .exhausted rr.pending
      have hH4 : C4.H = C3.H.set C.H.length (.loopo { l with state := .exhausted }) := by rw [n4, p4]
      have hst4 : St K C4 E.N F { a with defers := [{ target := .collected C.w.heap.size, args := #[] }] ++ a.defers } :=
        { hp := n3, size := h4.size, fr := ((h4.fr.mono e12).mono e3).mono n2, marks := ((hm1.mono e2).mono e3).mono n2 }
      refine ⟨rr.pending, C4.w, by rw [n1]; exact run_endLoop p2 (fun hh => m2 (p3.symm.trans hh)), ?_⟩
      rw [p4]
      cases hpe : l.pending with
      | none =>
        rw [hpe] at m3 hH4
        exact ⟨F, C4, rfl, hst4, by rw [hH4]; exact m3⟩
      | some c =>
        rw [hpe] at m3 hH4
        have := m3 K C4 _ h1 h2 h3 hst4 hH4
        rw [hrb] at this
        exact this

/-- Slots that are not named are let go. -/
theorem awp_slots {E : Env} {c : Code} {Q : Exit → Frm → Heap → Prop} {F : Frm} {H : Heap} (F' : Frm) (hF : ∀ k x, F'.lookup k = some x → ev F (.tmp k) = x ∨ x = .any) (h : AWp E c Q F' H) : AWp E c Q F H := by
  intro K C a h1 h2 h3 h4 h5
  refine h K C a h1 h2 h3 { hp := h4.hp, size := h4.size, fr := fun k x hx => ?_, marks := h4.marks } h5
  rcases hF k x hx with h | h
  · rw [← h]; exact ev_ok h4.fr (.tmp k)
  · rw [h]; exact .any _

end Go.Ab
