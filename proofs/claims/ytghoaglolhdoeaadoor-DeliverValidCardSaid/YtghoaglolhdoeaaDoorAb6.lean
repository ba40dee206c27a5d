/- A program logic over the model: contracts of calls, proved from the model alone, without conditions. -/
import Derived.Test.YtghoaglolhdoeaaDoorAb5
set_option linter.unusedSimpArgs false
set_option linter.unusedVariables false
namespace Go.Ab
open Go

inductive ORs (H : Heap) (keep : Nat → Prop) : AObj → AObj → Prop
  | var {cs cs' : List AV} (hl : cs'.length = cs.length) (hx : ∀ (k : Nat) (x x' : AV), cs[k]? = some x → cs'[k]? = some x' → Rs H keep x x') : ORs H keep (.var cs) (.var cs')
  | vec {z ver : Nat} {es es' : List AV} (hl : es'.length = es.length)
      (hc : ∀ (k : Nat) (x x' : AV), es[k]? = some x → es'[k]? = some x' → x'.cells.length = x.cells.length)
      (hx : ∀ (k : Nat) (x x' : AV), es[k]? = some x → es'[k]? = some x' → Rs H keep x x') : ORs H keep (.vec z ver es) (.vec z ver es')
  | mapo {es es' : List (AV × AV)} (hl : es'.length = es.length) (hx : ∀ (k : Nat) (x x' : AV × AV), es[k]? = some x → es'[k]? = some x' → Rs H keep x.1 x'.1)
      (hy : ∀ (k : Nat) (x x' : AV × AV), es[k]? = some x → es'[k]? = some x' → Rs H keep x.2 x'.2) : ORs H keep (.mapo es) (.mapo es')
  | loopo {l : LoopA} {F' : Frm} (hF : ∀ (k : Nat) (x' : AV), F'.lookup k = some x' → Rs H keep (ev l.F (.tmp k)) x') : ORs H keep (.loopo l) (.loopo { l with F := F' })

/-- The state (F, H) may be told as (F', H'). -/
structure Vw (n0 : Nat) (keep : Nat → Prop) (F : Frm) (H : Heap) (F' : Frm) (H' : Heap) : Prop where
  fr : ∀ (k : Nat) (x' : AV), F'.lookup k = some x' → Rs H keep (ev F (.tmp k)) x'
  len : H'.length ≤ H.length
  low : n0 ≤ H'.length
  k0 : ∀ i, i < n0 → keep i
  dead : ∀ i, i < H'.length → keep i ∨ H'[i]? = some .dead
  lt : ∀ i, keep i → i < H'.length
  obj : ∀ i o o', keep i → H[i]? = some o → H'[i]? = some o' → ORs H keep o o'

open Classical in
noncomputable def vwCtx (keep : Nat → Prop) (C : Ctx) (H' : Heap) : Ctx := { C with H := H', β := fun i => if keep i then C.β i else none }

theorem vw_own {keep : Nat → Prop} {C : Ctx} {H' : Heap} (hlen : H'.length ≤ C.H.length) {b : Nat} (h : (vwCtx keep C H').own b) : ∃ i, i < C.H.length ∧ keep i ∧ C.β i = some b := by
  obtain ⟨i, hi, hb⟩ := h
  simp only [vwCtx] at hi hb
  split at hb
  · rename_i hk; exact ⟨i, by omega, hk, hb⟩
  · cases hb

theorem vw_weak {keep : Nat → Prop} {K : Kon} {C : Ctx} (hp : Hp K C) {n0 : Nat} {F F' : Frm} {H' : Heap} (v : Vw n0 keep F C.H F' H') : Weak keep C (vwCtx keep C H') where
  w := rfl
  bad := fun b hb h => by
    rcases h with h | h
    · exact hb (.inl h)
    · obtain ⟨i, h1, _, h2⟩ := vw_own v.len h
      exact hb (.inr ⟨i, h1, h2⟩)
  free := fun i b hi hk hb h => by
    rcases h with h | h
    · exact hp.xown b h ⟨i, hi, hb⟩
    · obtain ⟨j, h1, h2, h3⟩ := vw_own v.len h
      have := hp.inj i j b hi h1 hb h3
      subst this
      exact hk h2
  lt := fun i hk _ => v.lt i hk
  var := fun i cs hk h => by
    have hl := v.lt i hk
    have := v.obj i _ _ hk h (List.getElem?_eq_getElem hl)
    refine ⟨?_, by simp [vwCtx, hk]⟩
    generalize hg : H'[i] = o at this
    cases this with
    | var _ _ => exact ⟨_, by show H'[i]? = _; rw [List.getElem?_eq_getElem hl, hg]⟩
  mapo := fun i cs hk h => by
    have hl := v.lt i hk
    have := v.obj i _ _ hk h (List.getElem?_eq_getElem hl)
    refine ⟨?_, by simp [vwCtx, hk]⟩
    generalize hg : H'[i] = o at this
    cases this with
    | mapo _ _ _ => exact ⟨_, by show H'[i]? = _; rw [List.getElem?_eq_getElem hl, hg]⟩
  loopo := fun i cs hk h => by
    have hl := v.lt i hk
    have := v.obj i _ _ hk h (List.getElem?_eq_getElem hl)
    refine ⟨?_, by simp [vwCtx, hk]⟩
    generalize hg : H'[i] = o at this
    cases this with
    | loopo _ => exact ⟨_, by show H'[i]? = _; rw [List.getElem?_eq_getElem hl, hg]⟩
  vec := fun i z ver es' hk h => by
    have hl : i < C.H.length := Nat.lt_of_lt_of_le (v.lt i hk) v.len
    have := v.obj i _ _ hk (List.getElem?_eq_getElem hl) h
    generalize hg : C.H[i] = o at this
    cases this with
    | vec h1 _ _ => exact ⟨_, by rw [List.getElem?_eq_getElem hl, hg], h1.symm, by simp [vwCtx, hk], rfl⟩

theorem rs_raw (H : Heap) (keep : Nat → Prop) (l : List Value) : Rs H keep (.rp (l.map .raw)) (.rp (l.map .raw)) :=
  .rp rfl (fun k x x' h h' => by
    rw [h] at h'; cases h'
    simp only [List.getElem?_map, Option.map_eq_some_iff] at h
    obtain ⟨y, _, rfl⟩ := h
    exact .raw y)

theorem FrOk.rs {keep : Nat → Prop} {C C' : Ctx} (hw : Weak keep C C') {K : Kon} (hp : Hp K C) {F F' : Frm} {tmps : Array Value} (h : FrOk C F tmps)
    (hr : ∀ (k : Nat) (x' : AV), F'.lookup k = some x' → Rs C.H keep (ev F (.tmp k)) x') : FrOk C' F' tmps := fun k x' hx =>
  (hr k x' hx).vl hw hp _ (ev_ok (a := { tmps := tmps, defers := [] }) h (.tmp k))

theorem Hp.vw {keep : Nat → Prop} {K : Kon} {C : Ctx} (hp : Hp K C) {n0 : Nat} (hn : K.C0.H.length = n0) {F F' : Frm} {H' : Heap} (v : Vw n0 keep F C.H F' H') : Hp K (vwCtx keep C H') := by
  have hw := vw_weak hp v
  have hown : ∀ b, (vwCtx keep C H').own b → C.own b := fun b hb => by obtain ⟨i, h1, _, h2⟩ := vw_own v.len hb; exact ⟨i, h1, h2⟩
  have hβ : ∀ i b, (vwCtx keep C H').β i = some b → keep i ∧ C.β i = some b := fun i b hb => by
    simp only [vwCtx] at hb; split at hb
    · rename_i hk; exact ⟨hk, hb⟩
    · cases hb
  refine
    { X := hp.X, xown := fun b hx ho => hp.xown b hx (hown b ho), xlt := hp.xlt
      inj := fun i j b hi hj hbi hbj => hp.inj i j b (Nat.lt_of_lt_of_le hi v.len) (Nat.lt_of_lt_of_le hj v.len) (hβ i b hbi).2 (hβ j b hbj).2
      lt := fun i b hi hb => hp.lt i b (Nat.lt_of_lt_of_le hi v.len) (hβ i b hb).2
      obj := fun i o' ho' => ?_
      ext := ?_
      os := hp.os, tape := hp.tape, output := hp.output, size := hp.size, same := hp.same
      ownn := fun b hb => hp.ownn b (hown b hb)
      glob := fun g cs hg => (rs_raw C.H keep cs).vl hw hp _ (hp.glob g cs hg) }
  · have hi : i < H'.length := get_lt ho'
    by_cases hk : keep i
    · have hl : i < C.H.length := Nat.lt_of_lt_of_le hi v.len
      have ho := List.getElem?_eq_getElem hl
      have hr := v.obj i _ _ hk ho ho'
      have hok := hp.obj i _ ho
      have hβi : (vwCtx keep C H').β i = C.β i := by simp [vwCtx, hk]
      generalize C.H[i] = o at hr hok
      cases hr with
      | var h1 h2 =>
        rename_i cs cs'
        obtain ⟨b, c, e, g1, g2, g3, g4⟩ := hok
        refine ⟨b, c, e, hβi.trans g1, g2, by omega, fun k x' hx' => ?_⟩
        have hx := List.getElem?_eq_getElem (l := cs) (i := k) (by have := get_lt hx'; omega)
        exact (h2 k _ x' hx hx').vl hw hp _ (g4 k _ hx)
      | vec h1 h2 h3 =>
        rename_i z ver es es'
        obtain ⟨g0, g1, g2, g3⟩ := hok
        refine ⟨g0, fun e he => ?_, by show es'.length ≤ C.κ i; omega, ?_⟩
        · obtain ⟨k, hk', rfl⟩ := List.mem_iff_getElem.1 he
          rw [h2 k (es[k]'(by omega)) _ (List.getElem?_eq_getElem (by omega)) (List.getElem?_eq_getElem hk')]
          exact g1 _ (List.getElem_mem _)
        · rcases g3 with g3 | ⟨b, c, t, g4, g5, g6, g7⟩
          · exact .inl ⟨hβi.trans g3.1, g3.2⟩
          · exact .inr ⟨b, c, t, hβi.trans g4, g5, g6, flat_vl es es' h2 h3 (fun k x x' hx hx' => (h3 k x x' hx hx').vl hw hp) (by omega) (fun k => c.getD k undef) g7⟩
      | mapo h1 h2 h3 =>
        rename_i es es'
        obtain ⟨b, ents, clock, g1, g2, g3, g4, g5⟩ := hok
        refine ⟨b, ents, clock, hβi.trans g1, g2, by omega, fun k x' hx' => ?_, g5⟩
        have hx := List.getElem?_eq_getElem (l := es) (i := k) (by have := get_lt hx'; omega)
        exact ⟨(h2 k _ x' hx hx').vl hw hp _ (g4 k _ hx).1, (h3 k _ x' hx hx').vl hw hp _ (g4 k _ hx).2⟩
      | loopo h1 =>
        obtain ⟨b, r, g1, g2, g3, g4, g5, g6, g7, g8, g9⟩ := hok
        exact ⟨b, r, hβi.trans g1, g2, g3, g4, g5, g6, g7, g8, g9.rs hw hp h1⟩
    · rcases v.dead i hi with h | h
      · exact absurd h hk
      · have ho'' : H'[i]? = some o' := ho'
        rw [h] at ho''; cases ho''; trivial
  · exact
      { len := by rw [hn]; exact v.low
        pers := fun b h1 h2 => ⟨(hp.ext.pers b h1 h2).1, hw.bad b (hp.ext.pers b h1 h2).2⟩
        var := fun i cs h => by
          have hk := v.k0 i (by rw [← hn]; exact get_lt h)
          obtain ⟨⟨cs', h1⟩, h2⟩ := hp.ext.var i cs h
          have := hw.var i cs' hk h1
          exact ⟨this.1, this.2.trans h2⟩
        mapo := fun i cs h => by
          have hk := v.k0 i (by rw [← hn]; exact get_lt h)
          obtain ⟨⟨cs', h1⟩, h2⟩ := hp.ext.mapo i cs h
          have := hw.mapo i cs' hk h1
          exact ⟨this.1, this.2.trans h2⟩
        loopo := fun i cs h => by
          have hk := v.k0 i (by rw [← hn]; exact get_lt h)
          obtain ⟨⟨cs', h1⟩, h2⟩ := hp.ext.loopo i cs h
          have := hw.loopo i cs' hk h1
          exact ⟨this.1, this.2.trans h2⟩
        vec := fun i z v' es' hi hh => by
          have hk := v.k0 i (by rw [← hn]; exact hi)
          obtain ⟨es, h1, h2, h3, h4⟩ := hw.vec i z v' es' hk hh
          obtain ⟨v0, es0, g1, g2, g3⟩ := hp.ext.vec i z v' es hi h1
          exact ⟨v0, es0, g1, g2, fun e => by obtain ⟨a1, a2, a3⟩ := g3 e; exact ⟨by omega, h3.trans a2, h4.trans a3⟩⟩ }

theorem awp_view {E : Env} {c : Code} {Q : Exit → Frm → Heap → Prop} {F : Frm} {H : Heap} (keep : Nat → Prop) {F' : Frm} {H' : Heap} (v : Vw E.n0 keep F H F' H') (h : AWp E c Q F' H') : AWp E c Q F H := by
  intro K C a h1 h2 h3 h4 h5
  subst h5
  have hw := vw_weak h4.hp v
  refine h K (vwCtx keep C H') a h1 h2 h3 { hp := h4.hp.vw h1 v, size := h4.size, fr := h4.fr.rs hw h4.hp v.fr, marks := ?_ } rfl
  obtain ⟨Ds, g1, g2, g3⟩ := h4.marks
  exact ⟨Ds, g1, g2, fun D hD => ⟨(g3 D hD).1, hw.bad D (g3 D hD).2.1, (g3 D hD).2.2⟩⟩

end Go.Ab
