/- A program logic over the model: contracts of calls, proved from the model alone, without conditions. -/
import Derived.Test.YtghoaglolhdoeaaDoorAb12
set_option linter.unusedSimpArgs false
set_option linter.unusedVariables false
namespace Go.Ab
open Go

section
variable {P : Program} {F : Frm} {H : Heap}

/-- A bound of a slice expression. -/
def bnd (F : Frm) : Option Operand → Option (Option Int)
  | none => some none
  | some x => match ev F x with
    | .raw (.int _ n) => some (some n)
    | _ => none

theorem bnd_run {C : Ctx} {ρ : Operand → Value} (hρ : ∀ x, Vl C (ev F x) (ρ x)) {o : Option Operand} {r : Option Int} (h : bnd F o = some r) :
    match o, r with
    | none, none => True
    | some x, some n => ∃ k, ρ x = .int k n
    | _, _ => False := by
  cases o with
  | none => simp [bnd] at h; subst h; trivial
  | some x =>
    simp only [bnd] at h
    split at h <;> simp at h
    rename_i k n hx
    subst h
    exact ⟨k, Vl.raw_inv (hx ▸ hρ x)⟩

theorem sliceBounds_run {ρ : Operand → Value} {C : Ctx} (hρ : ∀ x, Vl C (ev F x) (ρ x)) {lo hi : Option Operand} {rl rh : Option Int} (hl : bnd F lo = some rl) (hh : bnd F hi = some rh) (len cap : Nat) (hcap : len ≤ cap)
    (h1 : ∀ n, rh = some n → 0 ≤ n ∧ n ≤ cap) (h2 : 0 ≤ rl.getD 0 ∧ rl.getD 0 ≤ rh.getD len) (w : World) :
    (Instr.sliceBounds true len cap (lo.map ρ) (hi.map ρ) none).run P w = .ok ((rl.getD 0).toNat, (rh.getD len).toNat, cap) w := by
  have b1 := bnd_run hρ hl
  have b2 := bnd_run hρ hh
  cases hi with
  | none =>
    cases rh with
    | some n => exact b2.elim
    | none =>
      cases lo with
      | none => cases rl with
        | some n => exact b1.elim
        | none => simp [Instr.sliceBounds]
      | some x => cases rl with
        | none => exact b1.elim
        | some n =>
          obtain ⟨k, hk⟩ := b1
          simp at h2
          simp [Instr.sliceBounds, Instr.sliceBound, asIntOf, hk, h2]
  | some y =>
    cases rh with
    | none => exact b2.elim
    | some m =>
      obtain ⟨k2, hk2⟩ := b2
      have hm := h1 m rfl
      cases lo with
      | none => cases rl with
        | some n => exact b1.elim
        | none => simp [Instr.sliceBounds, Instr.sliceBound, asIntOf, hk2, hm]
      | some x => cases rl with
        | none => exact b1.elim
        | some n =>
          obtain ⟨k, hk⟩ := b1
          simp at h2
          have : n ≤ (m.toNat : Int) := by omega
          have h9 : ¬ max m 0 < n := by omega
          simp [h9, Instr.sliceBounds, Instr.sliceBound, asIntOf, hk, hk2, h2, hm, this]

theorem sliceAt_run {t e : TypeId} (ht : P.underlying t = some (.slice e)) {z : Nat} (hz : tsize P e = some z) (a : Option Addr) (len cap : Nat) (lo hi : Option Value) (l h m : Nat) (w : World)
    (hb : (Instr.sliceBounds true len cap lo hi none).run P w = .ok (l, h, m) w) :
    (Instr.sliceAt t (.slice a len cap) lo hi none).run P w = .ok (.slice (if m = l then a else a.map (·.add (l * z))) (h - l) (m - l)) w := by
  simp only [Instr.sliceAt, Sem.run_bind, run_underlying ht, Result.andThen_ok, Instr.slice, hb, tsize_run hz, Sem.run_pure]

theorem ok_slice_sl {t e : TypeId} {x : Operand} {lo hi : Option Operand} {rl rh : Option Int} {z : Nat} {full : Bool} {es : List AV} (ht : sliceElem P t = some e) (hz : tsize P e = some z) (hx : ev F x = .sl z full es)
    (hl : bnd F lo = some rl) (hh : bnd F hi = some rh) (h2 : 0 ≤ rl.getD 0 ∧ rl.getD 0 ≤ rh.getD es.length) (h3 : rh.getD es.length ≤ es.length) :
    OpOk P (.slice t x lo hi none) F H (.sl z false ((es.take (rh.getD es.length).toNat).drop (rl.getD 0).toNat)) H := .still fun K C ρ oo ho hp hH hρ => by
  have hv := hx ▸ hρ x
  generalize hr : ρ x = r at hv
  cases hv with
  | sl g hz' hcap hfull hn hs ha hx' =>
    rename_i a cap
    have hb := sliceBounds_run (P := P) hρ hl hh es.length cap hcap (fun n hn => by subst hn; simp at h2 h3; omega) h2 C.w
    have hrun := sliceAt_run (P := P) (sliceElem_spec ht) hz a es.length cap _ _ _ _ _ C.w hb
    have hh0 : (rh.getD es.length).toNat ≤ es.length := by omega
    have hl0 : (rl.getD 0).toNat ≤ (rh.getD es.length).toNat := by omega
    generalize (rh.getD es.length).toNat = hi' at *
    generalize (rl.getD 0).toNat = lo' at *
    have hlen : ((es.take hi').drop lo').length = hi' - lo' := by simp; omega
    refine ⟨.slice (if cap = lo' then a else a.map (·.add (lo' * z))) (hi' - lo') (cap - lo'), by simp only [execOp, ho, hr, Sem.run_bind, Option.map_none, hrun, Result.andThen_ok, Sem.run_pure], ?_⟩
    rw [← hlen]
    have hzz : ∀ q ∈ (es.take hi').drop lo', q.cells.length = z := fun q hq => hs q (List.mem_of_mem_take (List.mem_of_mem_drop hq))
    refine .sl (fun k => g (lo' * z + k)) hz' (by omega) (by simp) (fun h0 => ?_) hzz (fun q hq hne => ?_) (fun k y hy => ?_)
    · split at h0
      · have := hn h0; omega
      · cases a with
        | none => have := hn rfl; omega
        | some a => simp at h0
    · have hne' : es ≠ [] := fun h => hne (by subst h; simp)
      have hpos : 0 < ((es.take hi').drop lo').length := List.length_pos_iff.2 hne
      rw [if_neg (by omega)] at hq
      cases a with
      | none => simp at hq
      | some a =>
        obtain ⟨k1, k2, k3⟩ := ha a rfl hne'
        obtain ⟨b, o, sp⟩ := a
        simp only at k1 k2 k3; subst k1
        simp [add_none] at hq
        subst hq
        refine ⟨rfl, k2, fun k hk => ?_⟩
        simp only [Nat.add_assoc]
        refine k3 _ ?_
        have : lo' * z + ((es.take hi').drop lo').length * z ≤ es.length * z := by rw [← Nat.add_mul]; exact Nat.mul_le_mul_right z (by omega)
        omega
    · rw [flat_drop (fun q hq => hs q (List.mem_of_mem_take hq)), List.getElem?_drop, flat_take hs] at hy
      have hk : lo' * z + k < hi' * z := by have := get_lt hy; simp at this; omega
      rw [List.getElem?_take_of_lt hk] at hy
      exact hx' _ y hy

theorem ok_slice_slo {t e : TypeId} {x : Operand} {hi : Option Operand} {rh : Option Int} {z n ver len : Nat} {es : List AV} (ht : sliceElem P t = some e) (hz : tsize P e = some z) (hx : ev F x = .slo n ver 0 len) (hn : H[n]? = some (.vec z ver es))
    (hh : bnd F hi = some rh) (h2 : 0 ≤ rh.getD len) (h3 : rh.getD len ≤ es.length) :
    OpOk P (.slice t x none hi none) F H (.slo n ver 0 (rh.getD len).toNat) H := .still fun K C ρ oo ho hp hH hρ => by
  subst hH
  have hv := hx ▸ hρ x
  generalize hr : ρ x = r at hv
  cases hv with
  | slo hi' hv hhv =>
    obtain ⟨hl, rfl⟩ := hhv _ _ hn
    obtain ⟨g0, g1, g2, g3⟩ := hp.obj n _ hn
    have hb := sliceBounds_run (P := P) hρ (lo := none) (rl := none) rfl hh len (C.κ n) (by omega) (fun q hq => by subst hq; simp at h2 h3; omega) (by simpa using h2) C.w
    have hrun := sliceAt_run (P := P) (sliceElem_spec ht) hz ((C.β n).map fun b => ⟨b, 0 * z, none⟩) len (C.κ n - 0) _ _ _ _ _ C.w (by simpa using hb)
    simp only [Option.map_none, Option.getD_none, Int.toNat_zero, Nat.sub_zero] at hrun
    refine ⟨_, (by simp only [execOp, ho, hr, Sem.run_bind, Option.map_none, Nat.sub_zero, hrun, Result.andThen_ok]; rfl), .slo hi' hv (fun z' es' hes' => ?_)⟩
    rw [hn] at hes'; cases hes'
    refine ⟨by omega, ?_⟩
    cases C.β n <;> simp [add_none]

theorem ok_slice_slo_lo {t e : TypeId} {x lo : Operand} {hi : Option Operand} {kl : IntKind} {l : Int} {rh : Option Int} {z n ver len : Nat} {es : List AV} (ht : sliceElem P t = some e) (hz : tsize P e = some z) (hx : ev F x = .slo n ver 0 len) (hn : H[n]? = some (.vec z ver es))
    (hlo : ev F lo = .raw (.int kl l)) (hh : bnd F hi = some rh) (h0 : 0 ≤ l) (h2 : l < rh.getD len) (h3 : rh.getD len ≤ es.length) :
    OpOk P (.slice t x (some lo) hi none) F H (.slo n ver l.toNat ((rh.getD len).toNat - l.toNat)) H := .still fun K C ρ oo ho hp hH hρ => by
  subst hH
  have hv := hx ▸ hρ x
  generalize hr : ρ x = r at hv
  cases hv with
  | slo hi' hv hhv =>
    obtain ⟨hl, rfl⟩ := hhv _ _ hn
    obtain ⟨g0, g1, g2, g3⟩ := hp.obj n _ hn
    have hb := sliceBounds_run (P := P) hρ (lo := some lo) (rl := some l) (by simp [bnd, hlo]) hh len (C.κ n) (by omega) (fun q hq => by subst hq; simp at h2 h3; omega) (by simp; omega) C.w
    have hrun := sliceAt_run (P := P) (sliceElem_spec ht) hz ((C.β n).map fun b => ⟨b, 0 * z, none⟩) len (C.κ n - 0) _ _ _ _ _ C.w (by simpa using hb)
    simp only [Option.map_some, Option.getD_some, Nat.sub_zero] at hrun
    refine ⟨_, (by simp only [execOp, ho, hr, Sem.run_bind, Option.map_some, Option.map_none, Nat.sub_zero, hrun, Result.andThen_ok]; rfl), .slo hi' hv (fun z' es' hes' => ?_)⟩
    rw [hn] at hes'; cases hes'
    refine ⟨by omega, ?_⟩
    rw [if_neg (by omega)]
    cases C.β n <;> simp [add_none]

/-- A literal of elements: what stands where. -/
def litElems (P : Program) (H : Heap) (e : TypeId) (z : Nat) : List AV → List (Nat × AV) → Option (List AV)
  | es, [] => some es
  | es, (i, v) :: rest => if i < es.length ∧ v.cells.length = z ∧ v.goodPart H = true then litElems P H e z (es.set i v) rest else none

theorem flat_set {z : Nat} {es : List AV} (hz : ∀ e ∈ es, e.cells.length = z) {i : Nat} {v : AV} (hi : i < es.length) (hv : v.cells.length = z) : flat (es.set i v) = splice (flat es) (i * z) v.cells := by
  apply List.ext_getElem?
  intro q
  have hle : i * z + v.cells.length ≤ (flat es).length := by
    rw [flat_length hz, hv, ← Nat.succ_mul]; exact Nat.mul_le_mul_right z hi
  rw [splice_get _ _ _ hle]
  have he := List.getElem?_eq_getElem hi
  have := flat_upd es i es[i] v 0 v.cells hz he (by omega) (fun k => by
    split
    · rfl
    · rename_i h
      have h1 : v.cells.length ≤ k := by omega
      rw [List.getElem?_eq_none h1, List.getElem?_eq_none (by rw [hz es[i] (List.getElem_mem _)]; omega)]) q
  simpa using this

theorem litElems_ok {C : Ctx} {e : TypeId} {z : Nat} {ρ : Operand → Value} (hρ : ∀ x, Vl C (ev F x) (ρ x)) :
    ∀ (parts : List (Nat × Operand)) (es : List AV) (c : Array Value) (out : List AV), (∀ e ∈ es, e.cells.length = z) → CellsOk C (flat es) c → litElems P C.H e z es (parts.map fun p => (p.1, ev F p.2)) = some out →
    ∃ c', Instr.fill (fun i => some (i * z, z)) c (parts.map fun p => (p.1, ρ p.2)) = some c' ∧ CellsOk C (flat out) c' ∧ (∀ e ∈ out, e.cells.length = z) ∧ out.length = es.length
  | [], es, c, out, hz, h, hf => by simp [litElems] at hf; subst hf; exact ⟨c, rfl, h, hz, rfl⟩
  | (i, x) :: rest, es, c, out, hz, h, hf => by
    simp only [List.map_cons, litElems] at hf
    split at hf
    · rename_i hc
      obtain ⟨h1, h2, h3⟩ := hc
      obtain ⟨g1, g2, g3⟩ := part_cells (hρ x) h3
      have hle : i * z + (ev F x).cells.length ≤ (flat es).length := by
        rw [flat_length hz, h2, ← Nat.succ_mul]; exact Nat.mul_le_mul_right z h1
      obtain ⟨c', e1, e2, e3, e4⟩ := litElems_ok hρ rest (es.set i (ev F x)) (splice c.toList (i * z) (ρ x).cells.toList).toArray out (fun q hq => by
        rcases List.mem_or_eq_of_mem_set hq with hq | rfl
        · exact hz q hq
        · exact h2) (by rw [flat_set hz h1 h2]; exact h.splice (by simpa using g1) hle (fun k y hy => by
          have := g2 k y hy
          simpa [List.getD] using this)) hf
      refine ⟨c', ?_, e2, e3, by simpa using e4⟩
      simp only [List.map_cons]
      rw [fill_step _ c i (i * z) z (ρ x) _ rfl (by omega) (by have := h.1; omega)]
      exact e1
    · cases hf

theorem cellsOk_zero {C : Ctx} {n z : Nat} {x : AV} {zs : List Value} (hxc : x.cells = zs.map .raw) (hzl : zs.length = z) (hz0 : 0 < z) : CellsOk C (flat (List.replicate n x)) ((Array.range (n * z)).map (zs.toArray[· % zs.toArray.size]!)) := by
  have hl : ∀ e ∈ List.replicate n x, e.cells.length = z := fun q hq => by rw [List.eq_of_mem_replicate hq, hxc]; simpa using hzl
  refine ⟨by rw [flat_length hl]; simp, fun k y hk => ?_⟩
  obtain ⟨g1, g2⟩ := flat_replicate n x zs hxc (by omega) k y hk
  rw [g1]
  have hmod : k % zs.length < zs.length := Nat.mod_lt _ (by omega)
  have : ((Array.range (n * z)).map (zs.toArray[· % zs.toArray.size]!)).getD k undef = zs.getD (k % zs.length) undef := by
    rw [hzl] at g2
    simp [g2, hmod, List.getD]
  rw [this]; exact .raw _

theorem buildSlice_run {t e : TypeId} {len z : Nat} {parts : Array (Nat × Value)} (ht : P.underlying t = some (.slice e)) (hz : tsize P e = some z) {zs : List Value} (hzero : tzero P e = some zs) (hb : len * z ≤ 16777216) {c : Array Value}
    (hf : Instr.fill (fun i => some (i * z, z)) ((Array.range (len * z)).map (zs.toArray[· % zs.toArray.size]!)) parts.toList = some c) (w : World) :
    (Instr.buildSlice t len parts).run P w = .ok (.slice (some ⟨w.heap.size, 0, none⟩) len len) (w.alloc (.cells c e)) := by
  obtain ⟨zv, h1, h2⟩ := tzero_run (P := P) hzero w
  have hnb : ¬ (len * z > 2 ^ 24) := by omega
  simp only [Instr.buildSlice, Sem.run_bind, run_underlying ht, Result.andThen_ok, tsize_run hz, hnb, if_false, Sem.run_pure]
  by_cases h0 : len * z = 0
  · rw [h0] at hf
    simp only [h0, if_true, Sem.run_pure, Result.andThen_ok]
    have : (Array.range 0).map ((#[] : Array Value)[· % (#[] : Array Value).size]!) = (Array.range 0).map (zs.toArray[· % zs.toArray.size]!) := by simp
    simp only [this, hf, Sem.run_bind, newRow, Sem.run_pure, run_newObj, Result.andThen_ok]
    rfl
  · simp only [h0, if_false, Sem.run_bind, h1, Result.andThen_ok, Sem.run_pure, cells_list h2, hf, newRow, run_newObj]
    rfl

theorem ok_buildSlice {t e : TypeId} {len z : Nat} {parts : Array (Nat × Operand)} {zs : List Value} {x : AV} {es : List AV} (ht : sliceElem P t = some e) (hz : tsize P e = some z) (hzero : tzero P e = some zs) (hzl : zs.length = z) (hz0 : 0 < z)
    (hx : zeroAV P e = some x) (hraw : ∀ z ∈ zs, z.oneCell' = true) (hb : len * z ≤ 16777216) (hlit : litElems P H e z (List.replicate len x) (parts.toList.map fun p => (p.1, ev F p.2)) = some es) :
    OpOk P (.buildSlice t len parts) F H (.sl z true es) H := by
  intro K C ρ oo ho hp hH hρ
  subst hH
  have hxc := zeroAV_cells hx hzero hraw
  obtain ⟨c, e1, e2, e3, e4⟩ := litElems_ok (P := P) hρ parts.toList (List.replicate len x) _ es (fun q hq => by rw [List.eq_of_mem_replicate hq, hxc]; simpa using hzl) (cellsOk_zero hxc hzl hz0) hlit
  simp at e4
  have hr := buildSlice_run (P := P) (parts := parts.map fun (i, x) => (i, ρ x)) (len := len) (sliceElem_spec ht) hz hzero hb (c := c) (by simpa using e1) C.w
  have hw := hp.world (C.w.alloc (.cells c e)) rfl rfl rfl (by simp) (fun b hb => heap_alloc_old C.w _ b hb)
  refine ⟨.value (.slice (some ⟨C.w.heap.size, 0, none⟩) len len), _, _, by simp only [execOp, ho, Sem.run_bind, hr, Result.andThen_ok, Sem.run_pure], .inl rfl, hw.1, hw.2, ?_, rfl⟩
  rw [← e4]
  have hnew := World.alloc_heap_new C.w (.cells c e)
  refine .sl (fun k => c.getD k undef) hz0 (Nat.le_refl _) (fun _ => rfl) (by simp) e3 (fun a ha hne => ?_) (fun k y hy => (e2.2 k y hy).mono hw.1)
  cases ha
  refine ⟨rfl, fun hbad => ?_, fun k hk => ?_⟩
  · rcases hbad with h | ⟨i, hi, h⟩
    · have h8 : C.w.heap.size < K.C0.w.heap.size := hp.xlt _ h
      have := hp.size; omega
    · have h8 : C.w.heap.size < C.w.heap.size := hp.lt i _ hi h
      omega
  · rw [Nat.zero_add]
    exact cell_cells hnew (o := k) (by rw [e2.1, flat_length e3]; exact hk)

theorem ok_buildSlice_own {t e : TypeId} {len z : Nat} {parts : Array (Nat × Operand)} {zs : List Value} {x : AV} {es : List AV} (ht : sliceElem P t = some e) (hz : tsize P e = some z) (hzero : tzero P e = some zs) (hzl : zs.length = z) (hz0 : 0 < z)
    (hx : zeroAV P e = some x) (hraw : ∀ z ∈ zs, z.oneCell' = true) (hb : len * z ≤ 16777216) (hlit : litElems P H e z (List.replicate len x) (parts.toList.map fun p => (p.1, ev F p.2)) = some es) :
    OpOk P (.buildSlice t len parts) F H (.slo H.length 0 0 len) (H ++ [.vec z 0 es]) := by
  intro K C ρ oo ho hp hH hρ
  subst hH
  have hxc := zeroAV_cells hx hzero hraw
  obtain ⟨c, e1, e2, e3, e4⟩ := litElems_ok (P := P) hρ parts.toList (List.replicate len x) _ es (fun q hq => by rw [List.eq_of_mem_replicate hq, hxc]; simpa using hzl) (cellsOk_zero hxc hzl hz0) hlit
  simp at e4
  have hr := buildSlice_run (P := P) (parts := parts.map fun (i, x) => (i, ρ x)) (len := len) (sliceElem_spec ht) hz hzero hb (c := c) (by simpa using e1) C.w
  have := hp.push (C.w.alloc (.cells c e)) (.vec z 0 es) len rfl rfl rfl (by simp) (fun b hb => heap_alloc_old C.w _ b hb) _ rfl
    (fun ex => ⟨hz0, e3, by simp [e4], .inr ⟨C.w.heap.size, c, e, by simp, World.alloc_heap_new C.w _, by rw [e2.1, flat_length e3]; simp [e4], fun k y hy => (e2.2 k y hy).mono ex⟩⟩)
  refine ⟨.value (.slice (some ⟨C.w.heap.size, 0, none⟩) len len), _, _, by simp only [execOp, ho, Sem.run_bind, hr, Result.andThen_ok, Sem.run_pure], .inl rfl, this.1, this.2, ?_, rfl⟩
  refine .slo (by simp) (fun z' v0 es' hes => by simp at hes; omega) (fun z' es' hes => ?_)
  simp at hes
  obtain ⟨_, rfl⟩ := hes
  simp [e4]

/-- min, max of two whole numbers. -/
def rawMM (b : Builtin) (a c : Value) : Option Value :=
  match b, a, c with
  | .min, .int k x, .int k' y => if k = k' then some (.int k (if y < x then y else x)) else none
  | .max, .int k x, .int k' y => if k = k' then some (.int k (if x < y then y else x)) else none
  | _, _, _ => none

end

end Go.Ab
