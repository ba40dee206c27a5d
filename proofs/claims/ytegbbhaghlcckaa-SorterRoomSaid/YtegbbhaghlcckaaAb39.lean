/- What functions of this program compute, and the laws of what they compute, under the bounds on lengths that each contract states. -/
import Derived.Test.YtegbbhaghlcckaaAb38

set_option linter.unusedSimpArgs false
set_option linter.unusedVariables false
namespace Go.Ab
open Go

/-! ### a call that answers with own memory, in a heap that stays as it is -/
/-- The same, numbered from n on. -/
inductive Sh (n : Nat) (G' : Heap) : AV → AV → Prop
  | any (x : AV) : Sh n G' x .any
  | pur {x : AV} (h : Pur x) : Sh n G' x x
  | ptr {i off : Nat} (h : ∃ cs, G'[i]? = some (.var cs)) : Sh n G' (.ptr i off) (.ptr (n + i) off)
  | slo {i ver off len : Nat} : Sh n G' (.slo i ver off len) (.slo (n + i) ver off len)
  | mp {i : Nat} (h : ∃ es, G'[i]? = some (.mapo es)) : Sh n G' (.mp i) (.mp (n + i))
  | agg {cs cs' : List AV} (hl : cs'.length = cs.length) (hx : ∀ (k : Nat) (x x' : AV), cs[k]? = some x → cs'[k]? = some x' → Sh n G' x x') : Sh n G' (.agg cs) (.agg cs')
  | tup {cs cs' : List AV} (hl : cs'.length = cs.length) (hx : ∀ (k : Nat) (x x' : AV), cs[k]? = some x → cs'[k]? = some x' → Sh n G' x x') : Sh n G' (.tup cs) (.tup cs')
inductive ShO (n : Nat) (G' : Heap) : AObj → AObj → Prop
  | dead (o : AObj) : ShO n G' o .dead
  | var {cs cs' : List AV} (hl : cs'.length = cs.length) (hx : ∀ (k : Nat) (x x' : AV), cs[k]? = some x → cs'[k]? = some x' → Sh n G' x x') : ShO n G' (.var cs) (.var cs')
  | vec {z ver : Nat} {es es' : List AV} (hl : es'.length = es.length) (hc : ∀ (k : Nat) (x x' : AV), es[k]? = some x → es'[k]? = some x' → x'.cells.length = x.cells.length)
      (hx : ∀ (k : Nat) (x x' : AV), es[k]? = some x → es'[k]? = some x' → Sh n G' x x') : ShO n G' (.vec z ver es) (.vec z ver es')
  | mapo {es : List (AV × AV)} (h : ∀ x ∈ es, Pur x.1 ∧ Pur x.2) : ShO n G' (.mapo es) (.mapo es)
structure ShH (n : Nat) (G G' : Heap) : Prop where
  len : G'.length = G.length
  obj : ∀ (i : Nat) (o o' : AObj), G[i]? = some o → G'[i]? = some o' → ShO n G' o o'

def ovl (C C1 : Ctx) (G' : Heap) : Ctx :=
  { w := C1.w, X := C.X, L := C.L, H := C.H ++ G', β := fun j => if j < C.H.length then C.β j else C1.β (j - C.H.length), κ := fun j => if j < C.H.length then C.κ j else C1.κ (j - C.H.length) }
section
variable {K : Kon} {C C1 : Ctx} {G' : Heap}
theorem ovl_own (hlen : G'.length = C1.H.length) {b : Nat} (h : (ovl C C1 G').own b) : C.own b ∨ C1.own b := by
  obtain ⟨i, hi, hb⟩ := h
  simp only [ovl, List.length_append] at hi hb
  split at hb
  · rename_i h1; exact .inl ⟨i, h1, hb⟩
  · exact .inr ⟨i - C.H.length, by omega, hb⟩
theorem ovl_low {i : Nat} (h : i < C.H.length) : (ovl C C1 G').H[i]? = C.H[i]? := List.getElem?_append_left h
theorem ovl_high (i : Nat) : (ovl C C1 G').H[C.H.length + i]? = G'[i]? := by
  show (C.H ++ G')[C.H.length + i]? = _
  rw [List.getElem?_append_right (by omega), Nat.add_sub_cancel_left]
theorem ovl_β (i : Nat) : (ovl C C1 G').β (C.H.length + i) = C1.β i := by
  show (if C.H.length + i < C.H.length then _ else _) = _
  rw [if_neg (by omega), Nat.add_sub_cancel_left]
theorem ovl_κ (i : Nat) : (ovl C C1 G').κ (C.H.length + i) = C1.κ i := by
  show (if C.H.length + i < C.H.length then _ else _) = _
  rw [if_neg (by omega), Nat.add_sub_cancel_left]
theorem ovl_bad (hX : C1.X = C.bad) (hlen : G'.length = C1.H.length) (b : Nat) (h : ¬ C1.bad b) : ¬ (ovl C C1 G').bad b := by
  rintro (h1 | h1)
  · exact h (.inl (by rw [hX]; exact .inl h1))
  · rcases ovl_own hlen h1 with h2 | h2
    · exact h (.inl (by rw [hX]; exact .inr h2))
    · exact h (.inr h2)
theorem Sh.vl (hX : C1.X = C.bad) (hL : C1.L = C.L) (hG : ShH C.H.length C1.H G') {x x' : AV} (h : Sh C.H.length G' x x') : ∀ v, Vl C1 x v → Vl (ovl C C1 G') x' v := by
  induction h with
  | any x => exact fun v _ => .any v
  | pur h => exact h.vl (C := C1) (C' := ovl C C1 G') rfl (ovl_bad hX hG.len) (fun b _ h => by show ¬ C.L b; rw [← hL]; exact h)
  | ptr h =>
    intro v hv
    cases hv with
    | ptr h1 h2 => obtain ⟨cs, h⟩ := h; exact .ptr ⟨cs, (ovl_high _).trans h⟩ ((ovl_β _).trans h2)
  | slo =>
    rename_i i ver off len
    intro v hv
    cases hv with
    | slo hi hv h =>
      have hback : ∀ z v0 es', (ovl C C1 G').H[C.H.length + i]? = some (.vec z v0 es') → ∃ es, C1.H[i]? = some (.vec z v0 es) ∧ es'.length = es.length := fun z v0 es' he => by
        rw [ovl_high] at he
        have := hG.obj i _ _ (List.getElem?_eq_getElem hi) he
        generalize hg : C1.H[i] = o at this
        cases this with
        | vec hl _ _ => exact ⟨_, by rw [List.getElem?_eq_getElem hi, hg], hl⟩
      refine .slo (by show C.H.length + i < (C.H ++ G').length; rw [List.length_append, hG.len]; omega) (fun z v0 es he => ?_) (fun z es he => ?_)
      · obtain ⟨es0, h1, _⟩ := hback _ _ _ he; exact hv _ _ _ h1
      · obtain ⟨es0, h1, h2⟩ := hback _ _ _ he
        obtain ⟨h3, h4⟩ := h _ _ h1
        rw [ovl_β, ovl_κ]
        exact ⟨by omega, h4⟩
  | mp h =>
    intro v hv
    cases hv with
    | mp h1 h2 => obtain ⟨es, h⟩ := h; exact .mp ⟨es, (ovl_high _).trans h⟩ ((ovl_β _).trans h2)
  | agg hl hx ih =>
    rename_i cs cs'
    intro v hv
    cases hv with
    | agg g1 hx' =>
      refine .agg (by omega) (fun k x' hx'' => ?_)
      have hk' : k < cs.length := by have := get_lt hx''; omega
      exact ih k _ x' (List.getElem?_eq_getElem hk') hx'' _ (hx' k _ (List.getElem?_eq_getElem hk'))
  | tup hl hx ih =>
    rename_i cs cs'
    intro v hv
    cases hv with
    | tup g1 hx' =>
      refine .tup (by omega) (fun k x' hx'' => ?_)
      have hk' : k < cs.length := by have := get_lt hx''; omega
      exact ih k _ x' (List.getElem?_eq_getElem hk') hx'' _ (hx' k _ (List.getElem?_eq_getElem hk'))

theorem Sh.cells {n : Nat} {x x' : AV} (h : Sh n G' x x') (hl : x'.cells.length = x.cells.length) : ∀ (k : Nat) (y y' : AV), x.cells[k]? = some y → x'.cells[k]? = some y' → Sh n G' y y' := by
  intro k y y' hy hy'
  cases h with
  | agg h1 h2 => exact h2 k y y' hy hy'
  | any x =>
    simp only [AV.cells] at hy'
    cases k with
    | zero => simp at hy'; subst hy'; exact .any _
    | succ k => simp at hy'
  | pur hp =>
    rw [hy] at hy'; cases hy'
    have hpy : Pur y := by
      cases x with
      | agg cs => simp only [pur_agg] at hp; exact hp _ (List.mem_of_getElem? hy)
      | _ =>
        simp only [AV.cells] at hy
        cases k with
        | zero => simp at hy; subst hy; exact hp
        | succ k => simp at hy
    exact .pur hpy
  | _ =>
    simp only [AV.cells] at hy hy'
    cases k with
    | zero => simp at hy hy'; subst hy; subst hy'; (constructor <;> assumption)
    | succ k => simp at hy'
theorem flat_sh {n : Nat} {CC : Ctx} : ∀ (es es' : List AV) (g : Nat → Value), es'.length = es.length → (∀ (k : Nat) (x x' : AV), es[k]? = some x → es'[k]? = some x' → x'.cells.length = x.cells.length) →
    (∀ (k : Nat) (x x' : AV), es[k]? = some x → es'[k]? = some x' → Sh n G' x x') → (∀ x x', Sh n G' x x' → ∀ v, Vl C1 x v → Vl CC x' v) →
    (∀ k y, (flat es)[k]? = some y → Vl C1 y (g k)) → ∀ (k : Nat) (y' : AV), (flat es')[k]? = some y' → Vl CC y' (g k)
  | [], [], g, _, _, _, _, _, k, y', h => by simp [flat] at h
  | [], _ :: _, _, h, _, _, _, _, _, _, _ => by cases h
  | _ :: _, [], _, h, _, _, _, _, _, _, _ => by cases h
  | x :: es, x' :: es', g, hl, hc, hx, hv, hg, k, y', h => by
    have hc0 := hc 0 x x' rfl rfl
    have hx0 := hx 0 x x' rfl rfl
    simp only [flat, List.flatMap_cons] at h
    rcases Nat.lt_or_ge k x'.cells.length with hk | hk
    · rw [List.getElem?_append_left hk] at h
      have hgk : ∀ y, x.cells[k]? = some y → Vl C1 y (g k) := fun y hy => hg k y (by
        simp only [flat, List.flatMap_cons]
        rw [List.getElem?_append_left (get_lt hy)]; exact hy)
      have hy0 := List.getElem?_eq_getElem (l := x.cells) (i := k) (by omega)
      have hs : Sh n G' x.cells[k] y' := hx0.cells hc0 k _ _ hy0 h
      exact hv _ _ hs _ (hgk _ hy0)
    · rw [List.getElem?_append_right hk] at h
      have := flat_sh es es' (fun k => g (x.cells.length + k)) (by simpa using hl) (fun k a b ha hb => hc (k + 1) a b ha hb) (fun k a b ha hb => hx (k + 1) a b ha hb) hv (fun k y hy => hg _ y (by
          simp only [flat, List.flatMap_cons]
          rw [List.getElem?_append_right (by omega), Nat.add_sub_cancel_left]; exact hy)) (k - x'.cells.length) y' h
      rw [show x.cells.length + (k - x'.cells.length) = k by omega] at this
      exact this

theorem ovl_hp (hp : Hp K C) (h1 : Hp ⟨bare C C.bad, K.G, none⟩ C1) (hG : ShH C.H.length C1.H G') : Ext C (ovl C C1 G') ∧ Hp K (ovl C C1 G') := by
  have hX : C1.X = C.bad := h1.X
  have hL : C1.L = C.L := h1.L
  have hno : ∀ b, ¬ (bare C C.bad).own b := fun b ⟨i, hi, _⟩ => by simp [bare] at hi
  have hnew : ∀ b, C1.own b → C.w.heap.size ≤ b := fun b hb => (h1.ownn b hb).elim (fun h => (hno b h).elim) id
  have hsame : ∀ b, b < C.w.heap.size → C1.w.heap[b]? = C.w.heap[b]? := fun b hb => h1.same b hb (hno b)
  have hsz : C.w.heap.size ≤ C1.w.heap.size := h1.size
  have hβl : ∀ i, i < C.H.length → (ovl C C1 G').β i = C.β i := fun i hi => by show (if i < C.H.length then _ else _) = _; rw [if_pos hi]
  have hκl : ∀ i, i < C.H.length → (ovl C C1 G').κ i = C.κ i := fun i hi => by show (if i < C.H.length then _ else _) = _; rw [if_pos hi]
  have e : Ext C (ovl C C1 G') :=
    { len := by show C.H.length ≤ (C.H ++ G').length; simp
      lnt := fun _ h => h
      pers := fun b hb hs => ⟨hsame b hs, fun hbad => by
        rcases hbad with h | h
        · exact hb (.inl h)
        · rcases ovl_own hG.len h with h | h
          · exact hb (.inr h)
          · have := hnew b h; omega⟩
      var := fun i cs hi => ⟨⟨cs, (ovl_low (get_lt hi)).trans hi⟩, hβl i (get_lt hi)⟩
      mapo := fun i cs hi => ⟨⟨cs, (ovl_low (get_lt hi)).trans hi⟩, hβl i (get_lt hi)⟩
      loopo := fun i cs hi => ⟨⟨cs, (ovl_low (get_lt hi)).trans hi⟩, hβl i (get_lt hi)⟩
      vec := fun i z v' es' hi hh => by
        rw [ovl_low hi] at hh
        exact ⟨v', es', hh, Nat.le_refl _, fun _ => ⟨Nat.le_refl _, hβl i hi, hκl i hi⟩⟩ }
  refine ⟨e, ?_⟩
  have hv : ∀ x x', Sh C.H.length G' x x' → ∀ v, Vl C1 x v → Vl (ovl C C1 G') x' v := fun x x' h => h.vl hX hL hG
  refine
    { X := hp.X, xown := fun b hx ho => ?_, xlt := hp.xlt, L := hp.L, lown := fun b hx ho => ?_, llt := hp.llt, inj := fun i j b hi hj hbi hbj => ?_, lt := fun i b hi hb => ?_, obj := fun i o' hio => ?_
      ext := hp.ext.trans e, os := h1.os.trans hp.os, tape := h1.tape.trans hp.tape, output := h1.output.trans hp.output, size := Nat.le_trans hp.size hsz
      same := fun b hb hn => (hsame b (Nat.lt_of_lt_of_le hb hp.size)).trans (hp.same b hb hn), ownn := fun b hb => ?_, glob := fun g cs hg => (hp.glob g cs hg).mono e }
  · rcases ovl_own hG.len ho with h | h
    · exact hp.xown b hx h
    · exact h1.xown b (by rw [hX]; exact .inl hx) h
  · rcases ovl_own hG.len ho with h | h
    · exact hp.lown b hx h
    · exact h1.lown b (by rw [hL]; exact hx) h
  · have hl := hG.len
    simp only [ovl, List.length_append] at hi hj hbi hbj
    split at hbi <;> split at hbj
    · rename_i a1 a2; exact hp.inj i j b a1 a2 hbi hbj
    · rename_i a1 a2
      exact absurd ⟨j - C.H.length, by omega, hbj⟩ (h1.xown b (by rw [hX]; exact .inr ⟨i, a1, hbi⟩))
    · rename_i a1 a2
      exact absurd ⟨i - C.H.length, by omega, hbi⟩ (h1.xown b (by rw [hX]; exact .inr ⟨j, a2, hbj⟩))
    · have := h1.inj (i - C.H.length) (j - C.H.length) b (by omega) (by omega) hbi hbj
      omega
  · have hl := hG.len
    simp only [ovl, List.length_append] at hi hb ⊢
    split at hb
    · rename_i a1; exact Nat.lt_of_lt_of_le (hp.lt i b a1 hb) hsz
    · exact h1.lt (i - C.H.length) b (by omega) hb
  · rcases Nat.lt_or_ge i C.H.length with hl | hl
    · rw [ovl_low hl] at hio
      exact (hp.obj i o' hio).mono e (hβl i hl) (hκl i hl) (fun b hb => hsame b (hp.lt i b hl hb))
    · obtain ⟨j, rfl⟩ : ∃ j, i = C.H.length + j := ⟨i - C.H.length, by omega⟩
      rw [ovl_high] at hio
      have hj : j < C1.H.length := by have := get_lt hio; have := hG.len; omega
      have ho := List.getElem?_eq_getElem hj
      have hok := h1.obj j _ ho
      have hs := hG.obj j _ _ ho hio
      generalize C1.H[j] = o at hok hs
      cases hs with
      | dead o => trivial
      | var hl hx =>
        obtain ⟨b, c, t, g1, g2, g3, g4⟩ := hok
        refine ⟨b, c, t, (ovl_β j).trans g1, g2, by omega, fun k x' hx' => ?_⟩
        have hk := List.getElem?_eq_getElem (l := _) (i := k) (show k < _ by have := get_lt hx'; rw [hl] at this; exact this)
        exact hv _ _ (hx k _ x' hk hx') _ (g4 k _ hk)
      | vec hl hc hx =>
        rename_i z ver es es'
        obtain ⟨g0, g1, g2, g3⟩ := hok
        refine ⟨g0, fun x he => ?_, by rw [ovl_κ]; omega, ?_⟩
        · obtain ⟨k, hk', rfl⟩ := List.mem_iff_getElem.1 he
          rw [hc k (es[k]'(by omega)) _ (List.getElem?_eq_getElem (by omega)) (List.getElem?_eq_getElem hk')]
          exact g1 _ (List.getElem_mem _)
        · rw [ovl_β, ovl_κ]
          rcases g3 with g3 | ⟨b, c, t, g4, g5, g6, g7⟩
          · exact .inl g3
          · exact .inr ⟨b, c, t, g4, g5, g6, flat_sh es es' (fun k => c.getD k undef) hl hc hx hv g7⟩
      | mapo hpu =>
        obtain ⟨b, ents, clock, g1, g2, g3, g4, g5⟩ := hok
        refine ⟨b, ents, clock, (ovl_β j).trans g1, g2, g3, fun k x' hx' => ?_, g5⟩
        have hpx := hpu _ (List.mem_of_getElem? hx')
        exact ⟨hv _ _ (.pur hpx.1) _ (g4 k _ hx').1, hv _ _ (.pur hpx.2) _ (g4 k _ hx').2⟩
  · rcases ovl_own hG.len hb with h | h
    · exact hp.ownn b h
    · right; have := hnew b h; have := hp.size; omega
end

/-- A call with pure data that answers with own memory: the caller's memory stays, the new comes behind it. -/
theorem CallS.own {P : Program} {G : List (Nat × List Value)} {f : FuncId} {args : List AV} {H : Heap} {R R' : AV → Heap → Prop} (ha : ∀ x ∈ args, Pur x) (h : ACall P G f args [] R)
    (hk : ∀ r0 G0, R r0 G0 → ∃ r' G', Sh H.length G' r0 r' ∧ ShH H.length G0 G' ∧ R' r' (H ++ G')) : CallS P G f args H R' := by
  intro K C vs hG hH hp hargs
  subst hH
  subst hG
  refine (h (bare C C.bad) vs rfl (bare_hp hp C.bad (fun b hb => hb)) ⟨hargs.1, fun k x hx => ?_⟩).mono ?_
  · exact (ha x (mem_get hx)).vl (C := C) (C' := bare C C.bad) rfl (fun b hb h => hb (bare_bad h)) (fun b _ h => h) _ (hargs.2 k x hx)
  · rintro e w' ⟨r, v, C1, rfl, rfl, hp1, hv, hR⟩
    obtain ⟨r', G', h1, h2, h3⟩ := hk r C1.H hR
    obtain ⟨e1, e2⟩ := ovl_hp hp hp1 h2
    exact ⟨r', v, ovl C C1 G', rfl, rfl, e1, e2, h1.vl hp1.X hp1.L h2 v hv, h3⟩
theorem a_callO {E : Env} {ops : Array Oper} {Q : Frm → Heap → Prop} {rest : List Oper} {F : Frm} {H : Heap} {d : Tmp} {t : TypeId} {p : String} {af : Array Edge} {g : Option (Nat × Bool)}
  {c : Operand} {xs : Array Operand} {tys : Array TypeId} {f : FuncId} {first caps vs : List AV} {R : AV → Heap → Prop} (hg : gd ops F g = some true) (hc : evx F c = some (.fn f first caps)) (hx : evs F xs.toList = some vs) (hca : callable E.P f = true)
    (ha : ∀ x ∈ first ++ vs ++ caps, Pur x) (h : ACall E.P E.G f (first ++ vs ++ caps) [] R) (k : ∀ r0 G0, R r0 G0 → ∃ r' G', Sh H.length G' r0 r' ∧ ShH H.length G0 G' ∧ AOps E ops Q rest ((d, r') :: F) (H ++ G')) :
    AOps E ops Q (⟨some d, .call { callee := .value c, args := xs, argTypes := tys }, t, p, af, g⟩ :: rest) F H :=
  a_step hg (callP rfl hc hx hca (CallS.own (R' := fun r H' => AOps E ops Q rest ((d, r) :: F) H') ha h k) (fun _ _ h => h))

/-! ### how it is told -/
def ShL (n : Nat) (G' : Heap) : List AV → List AV → Prop
  | [], [] => True
  | x :: xs, y :: ys => Sh n G' x y ∧ ShL n G' xs ys
  | _, _ => False
theorem ShL.len {n : Nat} {G' : Heap} : ∀ {xs ys : List AV}, ShL n G' xs ys → ys.length = xs.length
  | [], [], _ => rfl
  | [], _ :: _, h => h.elim
  | _ :: _, [], h => h.elim
  | x :: xs, y :: ys, h => by simp [ShL.len h.2]
theorem ShL.get {n : Nat} {G' : Heap} : ∀ {xs ys : List AV}, ShL n G' xs ys → ∀ (k : Nat) (x x' : AV), xs[k]? = some x → ys[k]? = some x' → Sh n G' x x'
  | [], [], _, k, x, x', h, _ => by simp at h
  | [], _ :: _, h, _, _, _, _, _ => h.elim
  | _ :: _, [], h, _, _, _, _, _ => h.elim
  | x :: xs, y :: ys, h, 0, _, _, h1, h2 => by simp at h1 h2; subst h1; subst h2; exact h.1
  | x :: xs, y :: ys, h, k + 1, _, _, h1, h2 => ShL.get h.2 k _ _ (by simpa using h1) (by simpa using h2)
theorem sh_tup {n : Nat} {G' : Heap} {xs ys : List AV} (h : ShL n G' xs ys) : Sh n G' (.tup xs) (.tup ys) := .tup h.len h.get
theorem sh_agg {n : Nat} {G' : Heap} {xs ys : List AV} (h : ShL n G' xs ys) : Sh n G' (.agg xs) (.agg ys) := .agg h.len h.get
theorem sho_var {n : Nat} {G' : Heap} {xs ys : List AV} (h : ShL n G' xs ys) : ShO n G' (.var xs) (.var ys) := .var h.len h.get
theorem sho_vec {n : Nat} {G' : Heap} {z ver : Nat} {es : List AV} (h : ∀ x ∈ es, Pur x) : ShO n G' (.vec z ver es) (.vec z ver es) :=
  .vec rfl (fun k x x' h1 h2 => by rw [h1] at h2; cases h2; rfl) (fun k x x' h1 h2 => by rw [h1] at h2; cases h2; exact .pur (h x (mem_get h1)))
def ShHL (n : Nat) (G' : Heap) : Heap → Heap → Prop
  | [], [] => True
  | o :: l, o' :: l' => ShO n G' o o' ∧ ShHL n G' l l'
  | _, _ => False
theorem ShHL.len {n : Nat} {G' : Heap} : ∀ {l l' : Heap}, ShHL n G' l l' → l'.length = l.length
  | [], [], _ => rfl
  | [], _ :: _, h => h.elim
  | _ :: _, [], h => h.elim
  | x :: xs, y :: ys, h => by simp [ShHL.len h.2]
theorem ShHL.get {n : Nat} {G' : Heap} : ∀ {l l' : Heap}, ShHL n G' l l' → ∀ (i : Nat) (o o' : AObj), l[i]? = some o → l'[i]? = some o' → ShO n G' o o'
  | [], [], _, i, o, o', h, _ => by simp at h
  | [], _ :: _, h, _, _, _, _, _ => h.elim
  | _ :: _, [], h, _, _, _, _, _ => h.elim
  | x :: xs, y :: ys, h, 0, _, _, h1, h2 => by simp at h1 h2; subst h1; subst h2; exact h.1
  | x :: xs, y :: ys, h, i + 1, _, _, h1, h2 => ShHL.get h.2 i _ _ (by simpa using h1) (by simpa using h2)
theorem shh {n : Nat} {G G' : Heap} (h : ShHL n G' G G') : ShH n G G' := ⟨h.len, h.get⟩
end Go.Ab
