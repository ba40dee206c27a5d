/- A program logic over the model: contracts of calls, proved from the model alone, without conditions. -/
import Derived.Test.YtghoaglolhdoeaaDoorAb4
set_option linter.unusedSimpArgs false
set_option linter.unusedVariables false
namespace Go.Ab
open Go

/-- 'x' may be told as 'y': weaker, or with own memory laid open as data; what 'keep' names stays a number. -/
inductive Rs (H : Heap) (keep : Nat → Prop) : AV → AV → Prop
  | any (x : AV) : Rs H keep x .any
  | raw (v : Value) : Rs H keep (.raw v) (.raw v)
  | nil {z : Nat} {full : Bool} (hz : 0 < z) : Rs H keep (.raw (.slice none 0 0)) (.sl z full [])
  | ptrK {i off : Nat} (h : keep i) : Rs H keep (.ptr i off) (.ptr i off)
  | pelK {i ver j off : Nat} (h : keep i) : Rs H keep (.pel i ver j off) (.pel i ver j off)
  | sloK {i ver off len : Nat} (h : keep i) : Rs H keep (.slo i ver off len) (.slo i ver off len)
  | mpK {i : Nat} (h : keep i) : Rs H keep (.mp i) (.mp i)
  | ylK {i : Nat} (h : keep i) : Rs H keep (.yl i) (.yl i)
  | slo {i ver off len z : Nat} {es es' : List AV} (hk : ¬ keep i) (h : H[i]? = some (.vec z ver es)) (hl : off + len ≤ es.length) (hl' : es'.length = len)
      (hc : ∀ (k : Nat) (x x' : AV), (es.drop off)[k]? = some x → es'[k]? = some x' → x'.cells.length = x.cells.length)
      (hx : ∀ (k : Nat) (x x' : AV), (es.drop off)[k]? = some x → es'[k]? = some x' → Rs H keep x x') : Rs H keep (.slo i ver off len) (.sl z false es')
  | ptr {i off : Nat} {cs cs' : List AV} (hk : ¬ keep i) (h : H[i]? = some (.var cs)) (hl : off + cs'.length ≤ cs.length)
      (hx : ∀ (k : Nat) (x x' : AV), (cs.drop off)[k]? = some x → cs'[k]? = some x' → Rs H keep x x') : Rs H keep (.ptr i off) (.rp cs')
  | mp {i : Nat} {es es' : List (AV × AV)} (hk : ¬ keep i) (h : H[i]? = some (.mapo es)) (hl : es'.length = es.length)
      (hx : ∀ (k : Nat) (x x' : AV × AV), es[k]? = some x → es'[k]? = some x' → Rs H keep x.1 x'.1) (hy : ∀ (k : Nat) (x x' : AV × AV), es[k]? = some x → es'[k]? = some x' → Rs H keep x.2 x'.2) : Rs H keep (.mp i) (.pm es')
  | rp {cs cs' : List AV} (hl : cs'.length = cs.length) (hx : ∀ (k : Nat) (x x' : AV), cs[k]? = some x → cs'[k]? = some x' → Rs H keep x x') : Rs H keep (.rp cs) (.rp cs')
  | sl {z : Nat} {full full' : Bool} {es es' : List AV} (hf : full' = true → full = true) (hl : es'.length = es.length)
      (hc : ∀ (k : Nat) (x x' : AV), es[k]? = some x → es'[k]? = some x' → x'.cells.length = x.cells.length)
      (hx : ∀ (k : Nat) (x x' : AV), es[k]? = some x → es'[k]? = some x' → Rs H keep x x') : Rs H keep (.sl z full es) (.sl z full' es')
  | slb {z n : Nat} {es es' : List AV} (hl : es'.length = es.length)
      (hc : ∀ (k : Nat) (x x' : AV), es[k]? = some x → es'[k]? = some x' → x'.cells.length = x.cells.length)
      (hx : ∀ (k : Nat) (x x' : AV), es[k]? = some x → es'[k]? = some x' → Rs H keep x x') : Rs H keep (.slb z n es) (.slb z n es')
  | slbv {z n : Nat} {es es' : List AV} (hl : es'.length = n)
      (hc : ∀ (k : Nat) (x x' : AV), es[k]? = some x → es'[k]? = some x' → x'.cells.length = x.cells.length)
      (hx : ∀ (k : Nat) (x x' : AV), es[k]? = some x → es'[k]? = some x' → Rs H keep x x') : Rs H keep (.slb z n es) (.sl z false es')
  | slob {i ver n z : Nat} {es es' : List AV} (hk : ¬ keep i) (h : H[i]? = some (.vec z ver es)) (hle : n ≤ es.length) (hl' : es'.length = es.length)
      (hc : ∀ (k : Nat) (x x' : AV), es[k]? = some x → es'[k]? = some x' → x'.cells.length = x.cells.length)
      (hx : ∀ (k : Nat) (x x' : AV), es[k]? = some x → es'[k]? = some x' → Rs H keep x x') : Rs H keep (.slo i ver 0 n) (.slb z n es')
  | pm {es es' : List (AV × AV)} (hl : es'.length = es.length) (hx : ∀ (k : Nat) (x x' : AV × AV), es[k]? = some x → es'[k]? = some x' → Rs H keep x.1 x'.1)
      (hy : ∀ (k : Nat) (x x' : AV × AV), es[k]? = some x → es'[k]? = some x' → Rs H keep x.2 x'.2) : Rs H keep (.pm es) (.pm es')
  | fn {f : FuncId} {a a' b b' : List AV} (h1 : a'.length = a.length) (h2 : b'.length = b.length) (hx : ∀ (k : Nat) (x x' : AV), a[k]? = some x → a'[k]? = some x' → Rs H keep x x')
      (hy : ∀ (k : Nat) (x x' : AV), b[k]? = some x → b'[k]? = some x' → Rs H keep x x') : Rs H keep (.fn f a b) (.fn f a' b')
  | agg {cs cs' : List AV} (hl : cs'.length = cs.length) (hx : ∀ (k : Nat) (x x' : AV), cs[k]? = some x → cs'[k]? = some x' → Rs H keep x x') : Rs H keep (.agg cs) (.agg cs')
  | tup {cs cs' : List AV} (hl : cs'.length = cs.length) (hx : ∀ (k : Nat) (x x' : AV), cs[k]? = some x → cs'[k]? = some x' → Rs H keep x x') : Rs H keep (.tup cs) (.tup cs')

/-- One cell after the other. -/
theorem Rs.cells {H : Heap} {keep : Nat → Prop} {x x' : AV} (h : Rs H keep x x') (hl : x'.cells.length = x.cells.length) :
    ∀ (k : Nat) (y y' : AV), x.cells[k]? = some y → x'.cells[k]? = some y' → Rs H keep y y' := by
  intro k y y' hy hy'
  cases h with
  | agg h1 h2 => exact h2 k y y' hy hy'
  | any x =>
    simp only [AV.cells] at hy' hl
    cases k with
    | zero => simp at hy'; subst hy'; exact .any _
    | succ k => simp at hy'
  | _ =>
    simp only [AV.cells] at hy hy'
    cases k with
    | zero => simp at hy hy'; subst hy; subst hy'; (first | exact .raw _ | (constructor <;> assumption))
    | succ k => simp at hy'

theorem elem_vl {H : Heap} {keep : Nat → Prop} {C C' : Ctx} {x x' : AV} (h : Rs H keep x x') (hl : x'.cells.length = x.cells.length) (ih : ∀ v, Vl C x v → Vl C' x' v)
    (g : Nat → Value) (hg : ∀ k y, x.cells[k]? = some y → Vl C y (g k)) : ∀ k y', x'.cells[k]? = some y' → Vl C' y' (g k) := by
  have other : x.cells = [x] → x'.cells = [x'] → ∀ k y', x'.cells[k]? = some y' → Vl C' y' (g k) := by
    intro h1 h2 k y' hy'
    rw [h2] at hy'
    cases k with
    | zero => simp at hy'; subst hy'; exact ih _ (hg 0 x (by rw [h1]; rfl))
    | succ k => simp at hy'
  cases h with
  | agg h1 h2 =>
    rename_i cs cs'
    intro k y' hy'
    have hv : Vl C (.agg cs) (.agg ((List.range cs.length).map g).toArray) := .agg (by simp) (fun k y hy => by
      have hk := get_lt hy
      have : ((List.range cs.length).map g).toArray.getD k undef = g k := by simp [hk]
      rw [this]; exact hg k y hy)
    have := ih _ hv
    cases this with
    | agg h3 h4 =>
      have h5 := h4 k y' hy'
      have hk : k < cs.length := by have := get_lt hy'; simp only [AV.cells] at this; omega
      have : ((List.range cs.length).map g).toArray.getD k undef = g k := by simp [hk]
      rw [this] at h5; exact h5
  | any x =>
    intro k y' hy'
    simp only [AV.cells] at hy'
    cases k with
    | zero => simp at hy'; subst hy'; exact .any _
    | succ k => simp at hy'
  | _ => exact other rfl rfl

theorem flat_vl {H : Heap} {keep : Nat → Prop} {C C' : Ctx} : ∀ (es es' : List AV), (∀ (k : Nat) (x x' : AV), es[k]? = some x → es'[k]? = some x' → x'.cells.length = x.cells.length) →
    (∀ (k : Nat) (x x' : AV), es[k]? = some x → es'[k]? = some x' → Rs H keep x x') → (∀ (k : Nat) (x x' : AV), es[k]? = some x → es'[k]? = some x' → ∀ v, Vl C x v → Vl C' x' v) → es'.length ≤ es.length →
    ∀ (g : Nat → Value), (∀ k y, (flat es)[k]? = some y → Vl C y (g k)) → ∀ (k : Nat) (y' : AV), (flat es')[k]? = some y' → Vl C' y' (g k)
  | es, [], _, _, _, _, g, hg, k, y', h => by simp [flat] at h
  | [], x' :: es', _, _, _, hl, g, hg, k, y', h => by simp at hl
  | x :: es, x' :: es', hc, hx, hi, hl, g, hg, k, y', h => by
    have hc0 := hc 0 x x' rfl rfl
    simp only [flat, List.flatMap_cons] at h
    rcases Nat.lt_or_ge k x'.cells.length with hk | hk
    · rw [List.getElem?_append_left hk] at h
      refine elem_vl (hx 0 x x' rfl rfl) hc0 (hi 0 x x' rfl rfl) g (fun k y hy => hg k y ?_) k y' h
      simp only [flat, List.flatMap_cons]
      rw [List.getElem?_append_left (get_lt hy)]; exact hy
    · rw [List.getElem?_append_right hk] at h
      have := flat_vl es es' (fun k a b ha hb => hc (k + 1) a b ha hb) (fun k a b ha hb => hx (k + 1) a b ha hb) (fun k a b ha hb => hi (k + 1) a b ha hb) (by simpa using hl)
        (fun k => g (x.cells.length + k)) (fun k y hy => hg _ y (by
          simp only [flat, List.flatMap_cons]
          rw [List.getElem?_append_right (by omega), Nat.add_sub_cancel_left]; exact hy)) (k - x'.cells.length) y' h
      rw [show x.cells.length + (k - x'.cells.length) = k by omega] at this
      exact this

theorem flat_drop {z : Nat} : ∀ {es : List AV}, (∀ e ∈ es, e.cells.length = z) → ∀ n, flat (es.drop n) = (flat es).drop (n * z)
  | [], _, n => by simp [flat]
  | x :: es, hz, 0 => by simp
  | x :: es, hz, n + 1 => by
    have := flat_drop (es := es) (fun y hy => hz y (by simp [hy])) n
    have hx := hz x (by simp)
    simp only [List.drop_succ_cons] at this ⊢
    rw [this]
    simp only [flat, List.flatMap_cons]
    rw [Nat.succ_mul, List.drop_append, hx, show n * z + z - z = n * z by omega, List.drop_of_length_le (l := x.cells) (by omega), List.nil_append]

/-- The state told more weakly. -/
structure Weak (keep : Nat → Prop) (C C' : Ctx) : Prop where
  w : C'.w = C.w
  bad : ∀ b, ¬ C.bad b → ¬ C'.bad b
  free : ∀ i b, i < C.H.length → ¬ keep i → C.β i = some b → ¬ C'.bad b
  lt : ∀ i, keep i → i < C.H.length → i < C'.H.length
  var : ∀ i cs, keep i → C.H[i]? = some (.var cs) → (∃ cs', C'.H[i]? = some (.var cs')) ∧ C'.β i = C.β i
  mapo : ∀ i es, keep i → C.H[i]? = some (.mapo es) → (∃ es', C'.H[i]? = some (.mapo es')) ∧ C'.β i = C.β i
  loopo : ∀ i l, keep i → C.H[i]? = some (.loopo l) → (∃ l', C'.H[i]? = some (.loopo l')) ∧ C'.β i = C.β i
  vec : ∀ i z v es', keep i → C'.H[i]? = some (.vec z v es') → ∃ es, C.H[i]? = some (.vec z v es) ∧ es.length = es'.length ∧ C'.β i = C.β i ∧ C'.κ i = C.κ i

theorem Rs.vl {keep : Nat → Prop} {C C' : Ctx} (hw : Weak keep C C') {K : Kon} (hp : Hp K C) {x x' : AV} (h : Rs C.H keep x x') : ∀ v, Vl C x v → Vl C' x' v := by
  induction h with
  | any x => exact fun v _ => .any v
  | raw v => intro u hu; cases hu; exact .raw v
  | nil hz => intro u hu; cases hu; exact .sl (es := []) (fun _ => undef) hz (Nat.le_refl _) (fun _ => rfl) (fun _ => rfl) (fun e he => by cases he) (fun x hx => by cases hx) (fun k x hx => by simp [flat] at hx)
  | ptrK h =>
    intro u hu
    cases hu with
    | ptr hh hb => obtain ⟨cs, hh⟩ := hh; have := hw.var _ _ h hh; exact .ptr this.1 (this.2.trans hb)
  | pelK h =>
    intro u hu
    cases hu with
    | pel hi hv hh =>
      refine .pel (hw.lt _ h hi) (fun z v0 es hh' => ?_) (fun z es hh' => ?_)
      · obtain ⟨es0, h1, _⟩ := hw.vec _ _ _ _ h hh'; exact hv _ _ _ h1
      · obtain ⟨es0, h1, h2, h3, _⟩ := hw.vec _ _ _ _ h hh'
        obtain ⟨hj, b, hb, hv⟩ := hh _ _ h1
        exact ⟨by omega, b, h3.trans hb, hv⟩
  | sloK h =>
    intro u hu
    cases hu with
    | slo hi hv hh =>
      refine .slo (hw.lt _ h hi) (fun z v0 es hh' => ?_) (fun z es hh' => ?_)
      · obtain ⟨es0, h1, _⟩ := hw.vec _ _ _ _ h hh'; exact hv _ _ _ h1
      · obtain ⟨es0, h1, h2, h3, h4⟩ := hw.vec _ _ _ _ h hh'
        obtain ⟨hl, hv⟩ := hh _ _ h1
        exact ⟨by omega, by rw [h3, h4]; exact hv⟩
  | mpK h =>
    intro u hu
    cases hu with
    | mp hh hb => obtain ⟨cs, hh⟩ := hh; have := hw.mapo _ _ h hh; exact .mp this.1 (this.2.trans hb)
  | ylK h =>
    intro u hu
    cases hu with
    | yl hh hb => obtain ⟨cs, hh⟩ := hh; have := hw.loopo _ _ h hh; exact .yl this.1 (this.2.trans hb)
  | slo hk hes hl hl' hc hx ih =>
    rename_i i ver off len z es es'
    intro u hu
    cases hu with
    | slo hi hv hh =>
      obtain ⟨_, rfl⟩ := hh _ _ hes
      obtain ⟨h0, h1, h2, h3⟩ := hp.obj i _ hes
      subst hl'
      have hdl : (es.drop off).length = es.length - off := by simp
      have hcl : ∀ e ∈ es', e.cells.length = z := fun e he => by
        obtain ⟨k, hk', rfl⟩ := List.mem_iff_getElem.1 he
        rw [hc k ((es.drop off)[k]'(by omega)) _ (List.getElem?_eq_getElem (by omega)) (List.getElem?_eq_getElem hk')]
        exact h1 _ (List.mem_of_mem_drop (List.getElem_mem _))
      rcases h3 with ⟨hβ, hκ⟩ | ⟨b, c, t, hβ, hbk, hcs, hcv⟩
      · have : es' = [] := List.length_eq_zero_iff.1 (by omega)
        subst this
        rw [hβ, hκ]
        exact .sl (fun _ => undef) h0 (by simp) (by simp) (fun _ => by simp) hcl (fun x hx => by simp at hx) (fun k x hx => by simp [flat] at hx)
      · rw [hβ]
        have hκz : es.length * z ≤ C.κ i * z := Nat.mul_le_mul_right z h2
        have hoz : off * z + es'.length * z ≤ es.length * z := by rw [← Nat.add_mul]; exact Nat.mul_le_mul_right z hl
        refine .sl (fun k => c.getD (off * z + k) undef) h0 (by omega) (by simp) (by simp) hcl (fun x hx hne => ?_) ?_
        · simp at hx
          subst hx
          refine ⟨rfl, hw.free i b hi hk hβ, fun k hk' => ?_⟩
          rw [hw.w]
          exact cell_cells hbk (o := off * z + k) (by omega)
        · refine flat_vl (es.drop off) es' hc hx ih (by omega) (fun k => c.getD (off * z + k) undef) (fun k y hy => ?_)
          rw [flat_drop h1, List.getElem?_drop] at hy
          exact hcv _ y hy
  | ptr hk hcs hl hx ih =>
    rename_i i off cs cs'
    intro u hu
    cases hu with
    | ptr hh hb =>
      obtain ⟨b, c, t, hβ, hbk, hsz, hcv⟩ := hp.obj i _ hcs
      rw [hb] at hβ; cases hβ
      refine .rp (fun k => c.getD (off + k) undef) (hw.free i _ (get_lt hcs) hk hb) ⟨_, _, _, by rw [hw.w]; exact hbk⟩ (fun k hk' => ?_) (fun k x' hx' => ?_)
      · rw [hw.w]; exact cell_cells hbk (o := off + k) (by omega)
      · have hk' : k < cs'.length := get_lt hx'
        have hd : (cs.drop off)[k]? = some (cs[off + k]'(by omega)) := by rw [List.getElem?_drop, List.getElem?_eq_getElem]
        exact ih k _ x' hd hx' _ (hcv _ _ (List.getElem?_eq_getElem (by omega)))
  | mp hk hes hl hx hy ihx ihy =>
    rename_i i es es'
    intro u hu
    cases hu with
    | mp hh hb =>
      obtain ⟨b', ents, clock, h1, h2, h3, h4, _⟩ := hp.obj i _ hes
      rw [hb] at h1; cases h1
      refine .pm (hw.free i _ (get_lt hes) hk hb) (by rw [hw.w]; exact h2) (by omega) (fun k e he => ?_) (fun k e he => ?_)
      · have hk' : k < es.length := by have := get_lt he; omega
        have := h4 k _ (List.getElem?_eq_getElem hk')
        exact ihx k _ e (List.getElem?_eq_getElem hk') he _ this.1
      · have hk' : k < es.length := by have := get_lt he; omega
        have := h4 k _ (List.getElem?_eq_getElem hk')
        exact ihy k _ e (List.getElem?_eq_getElem hk') he _ this.2
  | rp hl hx ih =>
    rename_i cs cs'
    intro u hu
    cases hu with
    | rp g hb hs hc hx' =>
      refine .rp g (hw.bad _ hb) (by rw [hw.w]; exact hs) (fun k hk => by rw [hw.w]; exact hc k (by omega)) (fun k x' hx'' => ?_)
      have hk' : k < cs.length := by have := get_lt hx''; omega
      exact ih k _ x' (List.getElem?_eq_getElem hk') hx'' _ (hx' k _ (List.getElem?_eq_getElem hk'))
  | sl hf hl hc hx ih =>
    rename_i z full full' es es'
    intro u hu
    cases hu with
    | sl g hz hcap hfull hn hs ha hx' =>
      rw [← hl]
      refine .sl g hz (by omega) (fun h => by rw [hl]; exact hfull (hf h)) hn (fun e he => ?_) (fun x hx hne => ?_) (flat_vl es es' hc hx ih (by omega) g hx')
      · obtain ⟨k, hk', rfl⟩ := List.mem_iff_getElem.1 he
        rw [hc k (es[k]'(by omega)) _ (List.getElem?_eq_getElem (by omega)) (List.getElem?_eq_getElem hk')]
        exact hs _ (List.getElem_mem _)
      · obtain ⟨h1, h2, h3⟩ := ha x hx (fun h => hne (List.length_eq_zero_iff.1 (by rw [hl, h]; rfl)))
        exact ⟨h1, hw.bad _ h2, fun k hk => by rw [hw.w]; exact h3 k (by rw [← hl]; exact hk)⟩
  | slb hl hc hx ih =>
    rename_i z n es es'
    intro u hu
    cases hu with
    | slb g hz hle hcap hn hs ha hx' =>
      refine .slb g hz (by omega) (by omega) hn (fun e he => ?_) (fun x hx hne => ?_) (flat_vl es es' hc hx ih (by omega) g hx')
      · obtain ⟨k, hk', rfl⟩ := List.mem_iff_getElem.1 he
        rw [hc k (es[k]'(by omega)) _ (List.getElem?_eq_getElem (by omega)) (List.getElem?_eq_getElem hk')]
        exact hs _ (List.getElem_mem _)
      · obtain ⟨h1, h2, h3⟩ := ha x hx (fun h => hne (List.length_eq_zero_iff.1 (by rw [hl, h]; rfl)))
        exact ⟨h1, hw.bad _ h2, fun k hk => by rw [hw.w]; exact h3 k (by rw [← hl]; exact hk)⟩
  | slbv hl hc hx ih =>
    rename_i z n es es'
    intro u hu
    cases hu with
    | slb g hz hle hcap hn hs ha hx' =>
      rw [← hl]
      refine .sl g hz (by omega) (fun h => by cases h) hn (fun e he => ?_) (fun x hx hne => ?_) (flat_vl es es' hc hx ih (by omega) g hx')
      · obtain ⟨k, hk', rfl⟩ := List.mem_iff_getElem.1 he
        rw [hc k (es[k]'(by omega)) _ (List.getElem?_eq_getElem (by omega)) (List.getElem?_eq_getElem hk')]
        exact hs _ (List.getElem_mem _)
      · obtain ⟨h1, h2, h3⟩ := ha x hx (fun h => hne (List.length_eq_zero_iff.1 (by rw [h] at hle; simp at hle; omega)))
        exact ⟨h1, hw.bad _ h2, fun k hk => by rw [hw.w]; exact h3 k (Nat.lt_of_lt_of_le hk (Nat.mul_le_mul_right z (by omega)))⟩
  | slob hk hes hle hl' hc hx ih =>
    rename_i i ver n z es es'
    intro u hu
    cases hu with
    | slo hi hv hh =>
      obtain ⟨_, rfl⟩ := hh _ _ hes
      obtain ⟨h0, h1, h2, h3⟩ := hp.obj i _ hes
      have hcl : ∀ e ∈ es', e.cells.length = z := fun e he => by
        obtain ⟨k, hk', rfl⟩ := List.mem_iff_getElem.1 he
        rw [hc k (es[k]'(by omega)) _ (List.getElem?_eq_getElem (by omega)) (List.getElem?_eq_getElem hk')]
        exact h1 _ (List.getElem_mem _)
      simp only [Nat.zero_mul, Nat.sub_zero]
      rcases h3 with ⟨hβ, hκ⟩ | ⟨b, c, t, hβ, hbk, hcs, hcv⟩
      · have : es' = [] := List.length_eq_zero_iff.1 (by omega)
        subst this
        rw [hβ, hκ]
        exact .slb (fun _ => undef) h0 (by simp; omega) (by simp) (fun _ => rfl) hcl (fun x hx => by simp at hx) (fun k x hx => by simp [flat] at hx)
      · rw [hβ]
        have hκz : es.length * z ≤ C.κ i * z := Nat.mul_le_mul_right z h2
        refine .slb (fun k => c.getD k undef) h0 (by omega) (by omega) (by simp) hcl (fun x hx hne => ?_) (flat_vl es es' hc hx ih (by omega) (fun k => c.getD k undef) hcv)
        simp at hx
        subst hx
        refine ⟨rfl, hw.free i b hi hk hβ, fun k hk' => ?_⟩
        rw [hw.w]
        exact cell_cells hbk (o := 0 + k) (by rw [hl'] at hk'; omega) |>.trans (by simp)
  | pm hl hx hy ihx ihy =>
    rename_i es es'
    intro u hu
    cases hu with
    | pm hb hm hs hk hv =>
      refine .pm (hw.bad _ hb) (by rw [hw.w]; exact hm) (by omega) (fun k e he => ?_) (fun k e he => ?_)
      · have hk' : k < es.length := by have := get_lt he; omega
        exact ihx k _ e (List.getElem?_eq_getElem hk') he _ (hk k _ (List.getElem?_eq_getElem hk'))
      · have hk' : k < es.length := by have := get_lt he; omega
        exact ihy k _ e (List.getElem?_eq_getElem hk') he _ (hv k _ (List.getElem?_eq_getElem hk'))
  | fn h1 h2 hx hy ihx ihy =>
    rename_i f a a' b b'
    intro u hu
    cases hu with
    | fn g1 g2 hf hc =>
      refine .fn (by omega) (by omega) (fun k x' hx'' => ?_) (fun k x' hx'' => ?_)
      · have hk' : k < a.length := by have := get_lt hx''; omega
        exact ihx k _ x' (List.getElem?_eq_getElem hk') hx'' _ (hf k _ (List.getElem?_eq_getElem hk'))
      · have hk' : k < b.length := by have := get_lt hx''; omega
        exact ihy k _ x' (List.getElem?_eq_getElem hk') hx'' _ (hc k _ (List.getElem?_eq_getElem hk'))
  | agg hl hx ih =>
    rename_i cs cs'
    intro u hu
    cases hu with
    | agg g1 hx' =>
      refine .agg (by omega) (fun k x' hx'' => ?_)
      have hk' : k < cs.length := by have := get_lt hx''; omega
      exact ih k _ x' (List.getElem?_eq_getElem hk') hx'' _ (hx' k _ (List.getElem?_eq_getElem hk'))
  | tup hl hx ih =>
    rename_i cs cs'
    intro u hu
    cases hu with
    | tup g1 hx' =>
      refine .tup (by omega) (fun k x' hx'' => ?_)
      have hk' : k < cs.length := by have := get_lt hx''; omega
      exact ih k _ x' (List.getElem?_eq_getElem hk') hx'' _ (hx' k _ (List.getElem?_eq_getElem hk'))

end Go.Ab
