/- A program logic over the model: contracts of calls, proved from the model alone, without conditions. -/
import Derived.Test.YtegbbhaghlcckaaGC
import Derived.Shelf.Sort.Plain
import Derived.Shelf.Slices.CompactI
import Derived.Shelf.Slices.In.SortNone
import Derived.Lib.AppendZerosOnto
import Derived.MapKept
set_option linter.unusedSimpArgs false
set_option linter.unusedVariables false
namespace Go.Ab
open Go Go.Shelf Go.Sort Go.RowKit Go.Proofs

def inV (n : Int) : AV := .raw (.int .i64 n)
theorem flat_in (xs : List Int) : flat (xs.map inV) = xs.map inV := by
  have := flat_raw (xs.map (Value.int .i64)); rw [List.map_map] at this; exact this
def srt (xs : List Int) : List Int := xs.mergeSort fun x y => decide (x ≤ y)
theorem srt_len (xs : List Int) : (srt xs).length = xs.length := List.length_mergeSort ..

/-- The library's sort, of an own row. -/
theorem sort_acall {P : Program} {ρ : Ren} {G : List (Nat × List Value)} (Ly : Lays.n189 P ρ) {H : Heap} {i ver : Nat} {xs : List Int} (hH : H[i]? = some (.vec 1 ver (xs.map inV))) (hne : xs ≠ []) (hsz : xs.length < 4611686018427387904) :
    ACall P G (ρ.f 189) [.slo i ver 0 xs.length] H (fun r H' => r = .tup [] ∧ H' = H.set i (.vec 1 ver ((srt xs).map inV))) := by
  intro C vs hCH hp ha
  subst hCH
  obtain ⟨hs1, hx⟩ := ha
  obtain ⟨vs⟩ := vs
  match vs, hs1 with
  | [v], _ =>
    have hv : Vl C (.slo i ver 0 xs.length) v := hx 0 _ rfl
    have hil := get_lt hH
    cases hv with
    | slo hi hvv hh =>
      obtain ⟨_, rfl⟩ := hh _ _ hH
      obtain ⟨g0, g1, g2, g3⟩ := hp.obj i _ hH
      simp only [List.length_map] at g2
      have hpos := List.length_pos_iff.2 hne
      rcases g3 with ⟨g3, g4⟩ | ⟨b, c, t, hb, hbk, hcs, hcv⟩
      · omega
      · rw [flat_in] at hcv
        rw [Nat.mul_one] at hcs
        have hat : ∀ j (hj : j < xs.length), c.getD j undef = .int .i64 xs[j] := fun j hj => Vl.raw_inv (hcv j (inV xs[j]) (by simp [hj]))
        have hold : Holds (Value.int .i64) C.w b 0 xs.toArray := fun j hj => by
          have hj' : j < xs.length := by simpa using hj
          refine ⟨?_, ?_⟩
          · rw [cell_cells hbk (o := 0 + j) (by omega)]
            have := hat j hj'
            rw [Nat.zero_add, this]; simp [hj']
          · unfold World.frozen?; simp [hbk]
        have hc := Any.slices_Sort_int Ly b 0 (C.κ i - 0) xs C.w hold (heap_lt hbk) hsz
        have hvb : (Option.map (fun b => (⟨b, 0 * 1, none⟩ : Addr)) (C.β i)) = some ⟨b, 0, none⟩ := by rw [hb]; rfl
        rw [hvb]
        refine (callsIn_wide.2 hc).mono ?_
        rintro e w' ⟨rfl, n, os, rfl⟩
        have hsd : (List.mergeSort xs fun x y => decide (x ≤ y)) = srt xs := rfl
        rw [hsd]
        have hbl := heap_lt hbk
        have up := hp.upd (grow (putRow (Value.int .i64) (Sort.ahead C.w n) b 0 (srt xs).toArray) os) i hil (.vec 1 ver ((srt xs).map inV)) (C.β i) (C.κ i) rfl rfl rfl (by simp [grow, putRow, mapBlock, Sort.ahead])
          (fun q hq hne => by
            have : b ≠ q := fun e => hne (by rw [hb, e])
            simp only [grow, putRow, mapBlock, Sort.ahead]
            rw [Array.getElem?_append_left (by simpa using hq), Array.getElem?_modify, if_neg this])
          (.inl rfl) _ rfl (by rw [hH]; exact ⟨rfl, Nat.le_refl _, fun _ => ⟨by simp [srt_len], rfl, rfl⟩⟩)
          (fun ex => ⟨g0, fun q hq => by obtain ⟨x, _, rfl⟩ := List.mem_map.1 hq; rfl, by simp [srt_len]; omega, .inr ⟨b, putCells (Value.int .i64) 0 (srt xs).toArray c, t, by simpa using hb, by
            simp only [grow, putRow, mapBlock, Sort.ahead]
            rw [Array.getElem?_append_left (by simpa using hbl), Array.getElem?_modify, if_pos rfl, hbk]; rfl, by simp [putCells, hcs], fun k y hy => by
            rw [flat_in] at hy
            have hk := get_lt hy
            simp only [List.length_map] at hk
            have hk2 : k < c.size := by rw [srt_len] at hk; omega
            have e0 : (putCells (Value.int .i64) 0 (srt xs).toArray c).getD k undef = .int .i64 (srt xs)[k] := by
              simp [putCells, hk2, hk]
            rw [e0]
            simp [hk] at hy
            rw [← hy]; exact .raw _⟩⟩)
        exact ⟨.tup [], .tuple #[], _, rfl, rfl, up.2, .tup rfl (fun k x hx => by simp at hx), rfl, rfl⟩
end Go.Ab
namespace Go.Ab
open Go Go.Shelf Go.Sort Go.RowKit Go.Proofs

/-- The library's sort, of an empty own row. -/
theorem sort_acall0 {P : Program} {ρ : Ren} {G : List (Nat × List Value)} (Ly : Lays.n189 P ρ) {H : Heap} {i ver : Nat} {es : List AV} (hH : H[i]? = some (.vec 1 ver es)) :
    ACall P G (ρ.f 189) [.slo i ver 0 0] H (fun r H' => r = .tup [] ∧ H' = H) := by
  intro C vs hCH hp ha
  subst hCH
  obtain ⟨hs1, hx⟩ := ha
  obtain ⟨vs⟩ := vs
  match vs, hs1 with
  | [v], _ =>
    have hv : Vl C (.slo i ver 0 0) v := hx 0 _ rfl
    cases hv with
    | slo hi hvv hh =>
      obtain ⟨_, rfl⟩ := hh _ _ hH
      have hc := Any.slices_Sort_int_none Ly ((C.β i).map fun b => ⟨b, 0 * 1, none⟩) (C.κ i - 0) C.w
      refine (callsIn_wide.2 hc).mono ?_
      rintro e w' ⟨rfl, rfl⟩
      exact ⟨.tup [], .tuple #[], C, rfl, rfl, hp, .tup rfl (fun k x hx => by simp at hx), rfl, rfl⟩

theorem compact_le {xs : List Int} : (Lib.compact xs).length ≤ xs.length := by
  unfold Lib.compact Lib.compactUpTo
  rw [List.length_map]
  refine Nat.le_trans (List.length_filter_le _ _) (by simp)

/-- The library's Compact, of an own row. -/
theorem compact_acall {P : Program} {ρ : Ren} {G : List (Nat × List Value)} (Ly : Lays2.n20 P ρ) {H : Heap} {i ver : Nat} {xs : List Int} (hH : H[i]? = some (.vec 1 ver (xs.map inV))) (hne : xs ≠ []) (hsz : xs.length ≤ 9223372036854775807) :
    ACall P G (ρ.f 20) [.slo i ver 0 xs.length] H (fun r H' => r = .slo i ver 0 (Lib.compact xs).length ∧ H' = H.set i (.vec 1 ver ((Lib.compact xs ++ List.replicate (xs.length - (Lib.compact xs).length) 0).map inV))) := by
  intro C vs hCH hp ha
  subst hCH
  obtain ⟨hs1, hx⟩ := ha
  obtain ⟨vs⟩ := vs
  match vs, hs1 with
  | [v], _ =>
    have hv : Vl C (.slo i ver 0 xs.length) v := hx 0 _ rfl
    have hil := get_lt hH
    cases hv with
    | slo hi hvv hh =>
      obtain ⟨_, rfl⟩ := hh _ _ hH
      obtain ⟨g0, g1, g2, g3⟩ := hp.obj i _ hH
      simp only [List.length_map] at g2
      have hpos := List.length_pos_iff.2 hne
      rcases g3 with ⟨g3, g4⟩ | ⟨b, c, t, hb, hbk, hcs, hcv⟩
      · omega
      · rw [flat_in] at hcv
        rw [Nat.mul_one] at hcs
        have hat : ∀ j (hj : j < xs.length), c.getD j undef = .int .i64 xs[j] := fun j hj => Vl.raw_inv (hcv j (inV xs[j]) (by simp [hj]))
        have hold : Holds (Value.int .i64) C.w b 0 xs.toArray := fun j hj => by
          have hj' : j < xs.length := by simpa using hj
          refine ⟨?_, ?_⟩
          · rw [cell_cells hbk (o := 0 + j) (by omega)]
            have := hat j hj'
            rw [Nat.zero_add, this]; simp [hj']
          · unfold World.frozen?; simp [hbk]
        have hc := Any.slices_Compact_int Ly b 0 (C.κ i - 0) xs C.w hold hsz (by omega)
        have hvb : (Option.map (fun b => (⟨b, 0 * 1, none⟩ : Addr)) (C.β i)) = some ⟨b, 0, none⟩ := by rw [hb]; rfl
        rw [hvb]
        refine (callsIn_wide.2 hc).mono ?_
        rintro e w' ⟨rfl, n, rfl⟩
        have hcl := compact_le (xs := xs)
        generalize hys : Lib.compact xs ++ List.replicate (xs.length - (Lib.compact xs).length) 0 = ys
        have hyl : ys.length = xs.length := by rw [← hys]; simp; omega
        have hbl := heap_lt hbk
        have up := hp.upd (putRow (Value.int .i64) (Sort.ahead C.w n) b 0 ys.toArray) i hil (.vec 1 ver (ys.map inV)) (C.β i) (C.κ i) rfl rfl rfl (by simp [putRow, mapBlock, Sort.ahead])
          (fun q hq hne => by
            have : b ≠ q := fun e => hne (by rw [hb, e])
            simp only [putRow, mapBlock, Sort.ahead]
            rw [Array.getElem?_modify, if_neg this])
          (.inl rfl) _ rfl (by rw [hH]; exact ⟨rfl, Nat.le_refl _, fun _ => ⟨by simp [hyl], rfl, rfl⟩⟩)
          (fun ex => ⟨g0, fun q hq => by obtain ⟨x, _, rfl⟩ := List.mem_map.1 hq; rfl, by simp [hyl]; omega, .inr ⟨b, putCells (Value.int .i64) 0 ys.toArray c, t, by simpa using hb, by
            simp only [putRow, mapBlock, Sort.ahead]
            rw [Array.getElem?_modify, if_pos rfl, hbk]; rfl, by simp [putCells, hcs], fun k y hy => by
            rw [flat_in] at hy
            have hk := get_lt hy
            simp only [List.length_map] at hk
            have hk2 : k < c.size := by omega
            have e0 : (putCells (Value.int .i64) 0 ys.toArray c).getD k undef = .int .i64 ys[k] := by
              simp [putCells, hk2, hk]
            rw [e0]
            simp [hk] at hy
            rw [← hy]; exact .raw _⟩⟩)
        refine ⟨.slo i ver 0 (Lib.compact xs).length, _, _, rfl, rfl, up.2, ?_, rfl, rfl⟩
        · refine .slo (by simpa using hil) (fun z v0 es h => by
            simp only [List.getElem?_set_self hil] at h; cases h; exact Nat.le_refl _) (fun z es h => ?_)
          simp only [List.getElem?_set_self hil] at h
          cases h
          refine ⟨by simp [hyl]; omega, by simp [hb]⟩

theorem srt_perm (xs : List Int) : (srt xs).Perm xs := List.mergeSort_perm ..
theorem srt_le (xs : List Int) : (srt xs).Pairwise (· ≤ ·) := by
  have := List.pairwise_mergeSort (le := fun x y : Int => decide (x ≤ y)) (fun a b c h1 h2 => by simp at *; omega) (fun a b => by simp; omega) xs
  exact this.imp (by simp)
theorem compact_all {xs : List Int} : (Lib.compact xs).length = xs.length ↔ ∀ j, (hj : j + 1 < xs.length) → xs[j] ≠ xs[j + 1] := by
  unfold Lib.compact Lib.compactUpTo
  rw [List.length_map]
  have h0 := List.length_filter_eq_length_iff (p := Lib.keeps xs.toArray) (l := List.range xs.length)
  rw [List.length_range] at h0
  rw [h0]
  constructor
  · intro h j hj he
    have := h (j + 1) (by simp; omega)
    simp [Lib.keeps] at this
    apply this
    simp [hj, show j < xs.length by omega, he]
  · intro h j hj
    have hj := List.mem_range.1 hj
    simp only [Lib.keeps, decide_eq_true_eq]
    cases j with
    | zero => exact .inl rfl
    | succ j =>
      refine .inr ?_
      have := h j hj
      intro he
      apply this
      simp only [List.getElem!_toArray, Nat.add_sub_cancel] at he
      rw [getElem!_pos xs (j + 1) (by omega), getElem!_pos xs j (by omega)] at he; exact he.symm
theorem compact_srt (xs : List Int) : (Lib.compact (srt xs)).length = xs.length ↔ xs.Nodup := by
  rw [← srt_len xs, compact_all, ← (srt_perm xs).nodup_iff]
  have hs := List.pairwise_iff_getElem.1 (srt_le xs)
  constructor
  · intro h
    refine List.pairwise_iff_getElem.2 fun i j hi hj hij he => ?_
    have h1 := h (j - 1) (by omega)
    have h2 := hs (j - 1) j (by omega) hj (by omega)
    have h4 : (srt xs)[j - 1 + 1]'(by omega) = (srt xs)[j] := by congr 1; omega
    rw [h4] at h1
    rcases Nat.lt_or_ge i (j - 1) with h3 | h3
    · have h3 := hs i (j - 1) hi (by omega) h3
      omega
    · have : i = j - 1 := by omega
      subst this
      exact h1 he
  · intro h j hj
    exact List.pairwise_iff_getElem.1 h j (j + 1) (by omega) hj (by omega)
/-- What 'different' is. -/
def diffF (xs : List Int) : Bool := decide (xs.Nodup) && xs.all fun x => decide (1 ≤ x ∧ x ≤ 999999)
theorem diff_end {xs : List Int} (hne : 0 < (srt xs).length) : diffF xs = (decide (1 ≤ (srt xs)[0]) && decide ((srt xs)[(srt xs).length - 1] ≤ 999999) && decide ((Lib.compact (srt xs)).length = xs.length)) := by
  have hs := List.pairwise_iff_getElem.1 (srt_le xs)
  rw [Bool.eq_iff_iff]
  simp only [diffF, Bool.and_eq_true, decide_eq_true_eq, List.all_eq_true, compact_srt]
  constructor
  · rintro ⟨h1, h2⟩
    have a := h2 _ ((srt_perm xs).mem_iff.1 (List.getElem_mem hne))
    have b := h2 _ ((srt_perm xs).mem_iff.1 (List.getElem_mem (show (srt xs).length - 1 < (srt xs).length by omega)))
    exact ⟨⟨a.1, b.2⟩, h1⟩
  · rintro ⟨⟨h1, h2⟩, h3⟩
    refine ⟨h3, fun x hx => ?_⟩
    obtain ⟨i, hi, rfl⟩ := List.getElem_of_mem ((srt_perm xs).mem_iff.2 hx)
    refine ⟨?_, ?_⟩
    · rcases Nat.eq_or_lt_of_le (Nat.zero_le i) with h | h
      · subst h; exact h1
      · have := hs 0 i (by omega) hi h; omega
    · rcases Nat.lt_or_ge i ((srt xs).length - 1) with h | h
      · have := hs i _ hi (by omega) h; omega
      · have : i = (srt xs).length - 1 := by omega
        subst this; exact h2
end Go.Ab
namespace Go.Ab
open Go

/-- A place for a variable to come. -/
theorem push_dead {K : Kon} {C : Ctx} (hp : Hp K C) : ∃ C', C'.w = C.w ∧ Ext C C' ∧ Hp K C' ∧ C'.H = C.H ++ [.dead] := by
  let C' : Ctx := { C with H := C.H ++ [.dead], β := fun j => if j = C.H.length then none else C.β j, κ := fun j => if j = C.H.length then 0 else C.κ j }
  have hown : ∀ b, C'.own b → C.own b := fun b ⟨i, hi, hb⟩ => by
    simp [C'] at hi hb
    exact ⟨i, by omega, hb.2⟩
  have e : Ext C C' :=
    { len := by simp [C'], lnt := fun _ h => h, pers := fun b hb hs => ⟨rfl, fun h => h.elim (fun h => hb (.inl h)) (fun h => hb (.inr (hown b h)))⟩
      var := fun i cs hi => by have hl := get_lt hi; exact ⟨⟨cs, by simpa [C', List.getElem?_append_left hl] using hi⟩, by simp [C', Nat.ne_of_lt hl]⟩
      mapo := fun i cs hi => by have hl := get_lt hi; exact ⟨⟨cs, by simpa [C', List.getElem?_append_left hl] using hi⟩, by simp [C', Nat.ne_of_lt hl]⟩
      loopo := fun i cs hi => by have hl := get_lt hi; exact ⟨⟨cs, by simpa [C', List.getElem?_append_left hl] using hi⟩, by simp [C', Nat.ne_of_lt hl]⟩
      vec := fun i z v' es' hl hh => by
        simp only [C', List.getElem?_append_left hl] at hh
        exact ⟨v', es', hh, Nat.le_refl _, fun _ => ⟨Nat.le_refl _, by simp [C', Nat.ne_of_lt hl], by simp [C', Nat.ne_of_lt hl]⟩⟩ }
  refine ⟨C', rfl, e, ?_, rfl⟩
  exact
    { X := hp.X, xown := fun b hx ho => hp.xown b hx (hown b ho), xlt := hp.xlt, L := hp.L, lown := fun b hx ho => hp.lown b hx (hown b ho), llt := hp.llt
      inj := fun i j b hi hj hbi hbj => by
        simp [C'] at hi hj hbi hbj
        exact hp.inj i j b (by omega) (by omega) hbi.2 hbj.2
      lt := fun i b hi hb => by simp [C'] at hi hb; exact hp.lt i b (by omega) hb.2
      obj := fun i o hio => by
        rcases Nat.lt_or_ge i C.H.length with hl | hl
        · simp only [C', List.getElem?_append_left hl] at hio
          exact (hp.obj i o hio).mono e (by simp [C', Nat.ne_of_lt hl]) (by simp [C', Nat.ne_of_lt hl]) (fun b hb => rfl)
        · have hi := get_lt hio
          simp [C'] at hi
          have : i = C.H.length := by omega
          subst this
          simp [C'] at hio
          subst hio
          trivial
      ext := hp.ext.trans e, os := hp.os, tape := hp.tape, output := hp.output, size := hp.size, same := hp.same
      ownn := fun b hb => hp.ownn b (hown b hb), glob := fun g cs hg => (hp.glob g cs hg).mono e }
theorem w_phd {E : Env} {c : Code} {Q : Exit → Frm → Heap → Prop} {F : Frm} {H H' : Heap} (hH : snocX H .dead = some H') (h : AWp E c Q F H') : AWp E c Q F H := by
  intro K C a h1 h2 h3 h4 h5
  subst h5
  obtain ⟨C', e1, e2, e3, e5⟩ := push_dead h4.hp
  rw [← e1]
  exact h K C' a h1 h2 h3 { hp := e3, size := h4.size, fr := fun k x hx => (h4.fr k x hx).mono e2, marks := h4.marks.mono e2 } (by rw [e5, snocX_eq _ _ _ hH])
/-- A box, into its place. -/
theorem o_boxD {P : Program} {F : Frm} {H : Heap} {t : TypeId} {x : Operand} {v : AV} {q : Nat} (hx : evx F x = some v) (hg : v.goodPart H = true) (hq : H[q]? = some .dead) : OpOk P (.box t x) F H (.ptr q 0) (H.set q (.var v.cells)) := by
  intro K C ρ oo ho hp hH hρ
  subst hH
  have hql := get_lt hq
  obtain ⟨h1, h2, _⟩ := part_cells (evx_eq hx ▸ hρ x) hg
  have := hp.upd { C.w with heap := C.w.heap.push (.cells (ρ x).cells t) } q hql (.var v.cells) (some C.w.heap.size) 0 rfl rfl rfl (by simp) (fun b hb _ => by simp [Array.getElem?_push]; intro h; omega) (.inr ⟨_, rfl, Nat.le_refl _, by simp⟩) _ rfl (by rw [hq]; trivial)
    (fun ex => ⟨C.w.heap.size, (ρ x).cells, t, by simp, by simp, h1, fun k y hy => (h2 k y hy).mono ex⟩)
  refine ⟨.value (.pointer (some ⟨C.w.heap.size, 0, none⟩)), _, _, by simp [execOp, ho, Instr.box, newVar, newRow], .inl rfl, this.1, this.2, ?_, rfl⟩
  exact .ptr ⟨v.cells, by simp [hql]⟩ (by simp)

theorem w_heq {E : Env} {c : Code} {Q : Exit → Frm → Heap → Prop} {F : Frm} {H H1 : Heap} (e : H = H1) (h : AWp E c Q F H1) : AWp E c Q F H := e ▸ h
theorem snocX_ok {α : Type} : ∀ (l : List α) (y : α), snocX l y = some (l ++ [y])
  | [], _ => rfl
  | x :: l, y => by simp only [snocX, snocX_ok l y]; rfl
theorem setX_ok {α : Type} : ∀ {l : List α} {n : Nat} {y : α}, n < l.length → setX l n y = some (l.set n y)
  | [], _, _, h => by simp at h
  | x :: l, 0, y, _ => rfl
  | x :: l, n + 1, y, h => by simp only [setX, setX_ok (l := l) (n := n) (y := y) (by simpa using h)]; rfl
theorem msk_at {ks : List Nat} {y : Nat → AObj} {H : Heap} {j : Nat} {o : AObj} (hk : j ∈ ks) (h : H[j]? = some o) : (msk ks y 0 H)[j]? = some o := by
  rw [msk_get, h]; simp [hk]
theorem msk_len (ks : List Nat) (y : Nat → AObj) : ∀ (k : Nat) (H : Heap), (msk ks y k H).length = H.length
  | _, [] => rfl
  | k, o :: l => by simp [msk, msk_len ks y (k + 1) l]

/-- The end of the heap is let go: what stands before it does not lead there. -/
theorem w_cut {E : Env} {c : Code} {Q : Exit → Frm → Heap → Prop} {F : Frm} {H G : Heap} (F1 : Frm) (h0 : E.n0 ≤ H.length) (hF : RsFr (H ++ G) (· < H.length) F F1) (hO : ∀ o ∈ H, ORs (H ++ G) (· < H.length) o o) (h : AWp E c Q F1 H) : AWp E c Q F (H ++ G) := by
  refine awp_view (· < H.length) (F' := F1) (H' := H) ?_ h
  exact
    { fr := hF.get
      len := by simp
      low := by omega
      k0 := fun i hi => by omega
      dead := fun i hi => .inl (by omega)
      lt := fun i hi => by omega
      obj := fun i o o' hi h1 h2 => by
        rw [List.getElem?_append_left (get_lt h2)] at h1
        rw [h1] at h2; cases h2
        exact hO o (List.mem_of_getElem? h1) }
end Go.Ab
namespace Go.Ab
open Go
section
variable {P : Program} {F : Frm} {H : Heap}
/-- cap of nil. -/
theorem o_capn {t : TypeId} {x : Operand} (ht : lenTy P t = some 0) (hx : evx F x = some (.raw (.slice none 0 0))) : OpOk P (.call { callee := .builtin .cap, args := #[x], argTypes := #[t] }) F H (.raw (.int .i64 0)) H := .still fun K C ρ oo ho hp hH hρ => by
  subst hH
  refine ⟨.int .i64 0, ?_, .raw _⟩
  have h : ρ x = .slice none 0 0 := Vl.raw_inv (evx_eq hx ▸ hρ x)
  obtain ⟨e, he⟩ : ∃ e, P.underlying t = some (.slice e) := by
    unfold lenTy at ht; split at ht <;> simp at ht; exact ⟨_, by assumption⟩
  simp [execOp, ho, resolve, invoke, builtin, h, Builtin.cap_, run_underlying he, goInt]
/-- nil, sliced to nothing. -/
theorem o_sln {t e : TypeId} {x h : Operand} {k : IntKind} {z : Nat} (ht : sliceElem P t = some e) (hz : tsize P e = some z) (hx : evx F x = some (.raw (.slice none 0 0))) (hh : evx F h = some (.raw (.int k 0))) : OpOk P (.slice t x none (some h) none) F H (.raw (.slice none 0 0)) H := .still fun K C ρ oo ho hp hH hρ => by
  subst hH
  have h1 : ρ x = .slice none 0 0 := Vl.raw_inv (evx_eq hx ▸ hρ x)
  have hb := sliceBounds_run (P := P) hρ (lo := none) (rl := none) (hi := some h) (rh := some 0) rfl (by simp only [bnd, evx_eq hh]) 0 0 (Nat.le_refl _) (fun q hq => by cases hq; simp) (by simp) C.w
  have hrun := sliceAt_run (P := P) (sliceElem_spec ht) hz none 0 0 _ _ _ _ _ C.w hb
  simp only [Option.map_none, Option.map_some] at hrun
  refine ⟨.slice none 0 0, ?_, .raw _⟩
  simp only [execOp, ho, h1, Sem.run_bind, Option.map_some, Option.map_none, hrun, Result.andThen_ok]
  simp
/-- append of a make, to nil. -/
theorem o_apz {t tn e : TypeId} {x y : Operand} {z bytes N n : Nat} {zs : List Value} {x0 : AV} {kn kq : IntKind} {r : Int} {H' : Heap} (he : ElemOk P t e z zs x0 bytes) (hn : intKindOf P tn = some kn) (hx : evx F x = some (.raw (.slice none 0 0))) (hy : evx F y = some (.raw (.int kq r))) (hr : r = (n : Int)) (h0 : 0 < n) (hb : n * bytes ≤ 70368744177664) (h63 : n ≤ 4611686018427387904)
    (hN : H.length = N) (hH : snocX H (.vec z 0 (List.replicate n x0)) = some H') : OpOk P (.call { callee := .builtin .append, args := #[x, y], argTypes := #[t, tn] }) F H (.slo N 0 0 n) H' := by
  subst hr
  have hH' := snocX_eq _ _ _ hH
  subst hH' hN
  intro K C ρ oo ho hp hH hρ
  subst hH
  have h1 : ρ x = .slice none 0 0 := Vl.raw_inv (evx_eq hx ▸ hρ x)
  have h2 : ρ y = .int kq n := Vl.raw_inv (evx_eq hy ▸ hρ y)
  have hz := he.hz; have hby := he.hby; have hzero := he.hzero; have hzl := he.hzl; have hz0 := he.hz0
  obtain ⟨ii, hii⟩ : ∃ ii, P.info? e = some ii := by
    unfold tsize at hz; cases h : P.info? e with
    | none => simp [h] at hz
    | some ii => exact ⟨ii, rfl⟩
  have hiz : ii.size = z := by simp [tsize, hii] at hz; exact hz
  have hib : ii.bytes = bytes := by simp [tbytes, hii] at hby; exact hby
  obtain ⟨zv, hzv⟩ : ∃ zv, ii.zero = some zv := by
    cases h : ii.zero with
    | none => simp [tzero, hii, h] at hzero
    | some zv => exact ⟨zv, rfl⟩
  have hzc : zv.cells = zs.toArray := by
    simp [tzero, hii, hzv] at hzero; rw [← hzero]
  have hnt : P.underlying tn = some (.int kn) := by
    unfold intKindOf at hn; split at hn <;> simp at hn; subst hn; assumption
  have hnx : Builtin.nextslicecap (0 + n) 0 * ii.bytes ≤ 281474976710656 := by
    have : Builtin.nextslicecap (0 + n) 0 = n := by simp [Builtin.nextslicecap, h0]
    rw [this, hib]; omega
  have hrun := Go.Lib.run_append_grow_zeros (P := P) C.w t tn oo.type e ii zv kq kn (sliceElem_spec he.ht) hnt hii hzv none 0 0 [] (by simp [Builtin.firstCells]) n h0 (by omega) (by omega) (by omega) (by rw [hib]; omega) hnx
  have hge := grownCap_ge C.w (0 + n) 0 e
  generalize grownCap C.w (0 + n) 0 e = cap at hrun hge
  have hxc := zeroAV_cells he.hx hzero he.hraw
  have hcell : ∀ j, j < cap * z → ((([] : List Value).toArray ++ Builtin.zeroCells zv.cells n ++ Builtin.zeroCells zv.cells (cap - (0 + n))).getD j undef) = zs.getD (j % z) undef ∨ n * z ≤ j := fun j hj => by
    rcases Nat.lt_or_ge j (n * z) with h | h
    · left
      have hzs : zs.length = z := hzl
      have hmod : j % z < z := Nat.mod_lt _ hz0
      simp [Builtin.zeroCells, hzc, hzl, Array.getElem?_append, h, hmod]
    · exact .inr h
  have hsz : (([] : List Value).toArray ++ Builtin.zeroCells zv.cells n ++ Builtin.zeroCells zv.cells (cap - (0 + n))).size = cap * z := by
    simp [Builtin.zeroCells, hzc, hzl]
    rw [← Nat.add_mul]; congr 1; omega
  generalize (([] : List Value).toArray ++ Builtin.zeroCells zv.cells n ++ Builtin.zeroCells zv.cells (cap - (0 + n))) = cells at hrun hcell hsz
  have := hp.push (C.w.drew.alloc (.cells cells e)) (.vec z 0 (List.replicate n x0)) cap rfl rfl rfl (by simp) (fun b hb => heap_alloc_old C.w.drew _ hb) _ rfl
    (fun ex => ⟨hz0, fun q hq => by rw [List.eq_of_mem_replicate hq, hxc]; simpa using hzl, by simp; omega, .inr ⟨C.w.heap.size, _, e, by simp, World.alloc_heap_new C.w.drew _, by simpa using hsz, fun k y hk => by
      obtain ⟨g1, g2⟩ := flat_replicate n x0 zs hxc (by omega) k y hk
      rw [g1]
      have hkm : k < n * z := by rw [← hzl]; exact g2
      have hkc : n * z ≤ cap * z := Nat.mul_le_mul_right _ (by omega)
      rcases hcell k (by omega) with h | h
      · rw [h, hzl]; exact .raw _
      · omega⟩⟩)
  refine ⟨.value (.slice (some ⟨C.w.heap.size, 0, none⟩) n cap), _, _, ?_, .inl rfl, this.1, this.2, ?_, rfl⟩
  · simp only [execOp, ho, resolve, Sem.run_bind, Sem.run_pure, Result.andThen_ok, invoke, builtin]
    simp only [Nat.zero_add] at hrun
    simp [h1, h2, hrun]
  · refine .slo (by simp) (fun z' v0 es hes => by simp at hes; omega) (fun z' es hes => ?_)
    simp at hes
    obtain ⟨_, rfl⟩ := hes
    simp
end
end Go.Ab
namespace Go.Ab
open Go Go.MapKept

/-! ### own maps with numbers as keys -/
def mget {α : Type} : List (Int × α) → Int → Option α
  | [], _ => none
  | p :: t, k => if p.1 = k then some p.2 else mget t k
def mput {α : Type} : List (Int × α) → Int → α → List (Int × α)
  | [], k, v => [(k, v)]
  | p :: t, k, v => if p.1 = k then (k, v) :: t else p :: mput t k v
theorem mget_map {α β : Type} (f : α → β) : ∀ (l : List (Int × α)) (k : Int), mget (l.map fun p => (p.1, f p.2)) k = (mget l k).map f
  | [], _ => rfl
  | p :: t, k => by
    simp only [List.map_cons, mget]
    split
    · rfl
    · exact mget_map f t k
theorem mput_map {α β : Type} (f : α → β) : ∀ (l : List (Int × α)) (k : Int) (v : α), mput (l.map fun p => (p.1, f p.2)) k (f v) = (mput l k v).map fun p => (p.1, f p.2)
  | [], _, _ => rfl
  | p :: t, k, v => by
    simp only [List.map_cons, mput]
    split
    · rfl
    · simp [mput_map f t k v]
theorem mget_put {α : Type} : ∀ (l : List (Int × α)) (k k' : Int) (v : α), mget (mput l k v) k' = if k = k' then some v else mget l k'
  | [], k, k', v => by simp [mput, mget]
  | p :: t, k, k', v => by
    simp only [mput]
    split
    · rename_i h
      simp only [mget]
      subst h
      split <;> simp_all
    · rename_i h
      simp only [mget, mget_put t k k' v]
      by_cases h1 : p.1 = k'
      · rw [if_pos h1, if_pos h1, if_neg (by omega)]
      · rw [if_neg h1, if_neg h1]
theorem mput_len_some {α : Type} : ∀ (l : List (Int × α)) (k : Int) (v : α), mget l k ≠ none → (mput l k v).length = l.length
  | [], _, _, h => absurd rfl h
  | p :: t, k, v, h => by
    simp only [mput, mget] at *
    split
    · rfl
    · rename_i h1
      rw [if_neg h1] at h
      simp [mput_len_some t k v h]
theorem mput_len_none {α : Type} : ∀ (l : List (Int × α)) (k : Int) (v : α), mget l k = none → (mput l k v).length = l.length + 1
  | [], _, _, h => rfl
  | p :: t, k, v, h => by
    simp only [mput, mget] at *
    split at h
    · cases h
    · rename_i h1
      rw [if_neg h1]
      simp [mput_len_none t k v h]
theorem mput_len_le {α : Type} (l : List (Int × α)) (k : Int) (v : α) : (mput l k v).length ≤ l.length + 1 := by
  cases h : mget l k with
  | none => rw [mput_len_none l k v h]; exact Nat.le_refl _
  | some a => rw [mput_len_some l k v (by rw [h]; simp)]; omega
/-- A map's entries. -/
def mpE (l : List (Int × AV)) : List (AV × AV) := l.map fun p => (.raw (.int .i64 p.1), p.2)
def fidx : List (Int × AV) → Int → Option Nat
  | [], _ => none
  | p :: t, k => if p.1 = k then some 0 else (fidx t k).map (· + 1)
theorem fidx_none : ∀ (l : List (Int × AV)) (k : Int) (v : AV), fidx l k = none → mget l k = none ∧ mput l k v = l ++ [(k, v)]
  | [], _, _, _ => ⟨rfl, rfl⟩
  | p :: t, k, v, h => by
    simp only [fidx] at h
    split at h
    · cases h
    · rename_i h1
      have := fidx_none t k v (by cases hq : fidx t k with | none => rfl | some q => rw [hq] at h; cases h)
      simp only [mget, mput, if_neg h1, this.1, this.2]
      exact ⟨trivial, rfl⟩
theorem fidx_some : ∀ (l : List (Int × AV)) (k : Int) (v : AV) (j : Nat), fidx l k = some j → ∃ a, l[j]? = some (k, a) ∧ mget l k = some a ∧ mput l k v = l.set j (k, v)
  | [], _, _, _, h => by cases h
  | p :: t, k, v, j, h => by
    simp only [fidx] at h
    split at h
    · rename_i h1
      cases h
      obtain ⟨p1, p2⟩ := p
      simp only at h1; subst h1
      exact ⟨p2, rfl, by simp [mget], by simp [mput]⟩
    · rename_i h1
      cases hq : fidx t k with
      | none => rw [hq] at h; cases h
      | some q =>
        rw [hq] at h; cases h
        obtain ⟨a, g1, g2, g3⟩ := fidx_some t k v q hq
        exact ⟨a, by simpa using g1, by simp [mget, if_neg h1, g2], by simp [mput, if_neg h1, g3]⟩
theorem findNow_int {q : IntKind} : ∀ (es : List MapEntry) (l : List (Int × AV)) (k : Int) (i : Nat), es.length = l.length → (∀ (j : Nat) (p : Int × AV), l[j]? = some p → (es.getD j default).key = .int .i64 p.1) →
    Instr.findNow (.int q) (.int .i64 k) es i = some (match fidx l k with | none => none | some j => some (i + j, (es.getD j default).val))
  | [], [], k, i, _, _ => rfl
  | [], _ :: _, _, _, h, _ => by cases h
  | _ :: _, [], _, _, h, _ => by cases h
  | e :: es, p :: l, k, i, h, hk => by
    have h0 := hk 0 p rfl
    simp only [List.getD_cons_zero] at h0
    have ih := findNow_int (q := q) es l k (i + 1) (by simpa using h) (fun j p' hj => by have := hk (j + 1) p' (by simpa using hj); simpa using this)
    simp only [Instr.findNow, h0, Instr.sameNow, if_true]
    by_cases hkp : p.1 = k
    · subst hkp; simp [fidx]
    · have : (k == p.1) = false := by simpa using fun h => hkp h.symm
      simp only [this, ih, fidx, if_neg hkp]
      cases fidx l k with
      | none => rfl
      | some j => simp; omega
section
variable {P : Program} {F : Frm} {H : Heap}
def mapTy (P : Program) (t : TypeId) : Option (TypeId × TypeId) := match P.underlying t with | some (.map k e) => some (k, e) | _ => none
theorem mapTy_spec {t k e : TypeId} (h : mapTy P t = some (k, e)) : P.underlying t = some (.map k e) := by
  unfold mapTy at h; split at h <;> simp at h; obtain ⟨rfl, rfl⟩ := h; assumption
theorem o_mm {t : TypeId} {N : Nat} {H' : Heap} (hN : H.length = N) (hH : snocX H (.mapo []) = some H') : OpOk P (.makeMap t none) F H (.mp N) H' := by
  have := snocX_eq _ _ _ hH
  subst this hN
  intro K C ρ oo ho hp hH hρ
  subst hH
  have := hp.push (C.w.alloc (.map #[] 0)) (.mapo []) 0 rfl rfl rfl (by simp) (fun b hb => heap_alloc_old C.w _ hb) _ rfl
    (fun ex => ⟨C.w.heap.size, #[], 0, by simp, World.alloc_heap_new C.w _, rfl, fun k e h => by simp at h, fun k h => by simp at h, fun j k _ h => by simp at h⟩)
  refine ⟨.value (.map (some C.w.heap.size)), _, _, by simp [execOp, ho, Instr.makeMap, newObj, Sem.run_bind]; rfl, .inl rfl, this.1, this.2, ?_, rfl⟩
  exact .mp ⟨[], by simp⟩ (by simp)
theorem map_keys {C : Ctx} {l : List (Int × AV)} {ents : Array MapEntry} (hs : ents.size = (mpE l).length) (hv : ∀ k e, (mpE l)[k]? = some e → Vl C e.1 (ents.getD k default).key ∧ Vl C e.2 (ents.getD k default).val) :
    ents.toList.length = l.length ∧ (∀ (j : Nat) (p : Int × AV), l[j]? = some p → (ents.toList.getD j default).key = .int .i64 p.1 ∧ Vl C p.2 (ents.toList.getD j default).val) := by
  refine ⟨by simpa [mpE] using hs, fun j p hj => ?_⟩
  have := hv j _ (show (mpE l)[j]? = some (.raw (.int .i64 p.1), p.2) by simp [mpE, hj])
  have e : ents.toList.getD j default = ents.getD j default := by simp [List.getD]
  rw [e]
  exact ⟨Vl.raw_inv this.1, this.2⟩
/-- A look-up. -/
theorem o_lk {t kt e : TypeId} {x i : Operand} {n : Nat} {l : List (Int × AV)} {k : Int} {zv : Value} {z : AV} (ht : mapTy P t = some (kt, e)) (hk : P.underlying kt = some (.int .i64)) (hz : (P.info? e).bind (·.zero) = some zv) (hzv : ∀ C, Vl C z zv)
    (hx : evx F x = some (.mp n)) (hH : H[n]? = some (.mapo (mpE l))) (hi : evx F i = some (.raw (.int .i64 k))) (co : Bool) :
    OpOk P (.lookup t x i co) F H (match co with | true => .tup [(mget l k).getD z, .raw (.bool (mget l k).isSome)] | false => (mget l k).getD z) H := .still fun K C ρ oo ho hp hH' hρ => by
  subst hH'
  have hxv := evx_eq hx ▸ hρ x
  have hiv : ρ i = .int .i64 k := Vl.raw_inv (evx_eq hi ▸ hρ i)
  generalize hr : ρ x = r at hxv
  cases hxv with
  | mp hex hb =>
    rename_i b
    obtain ⟨b', ents, clock, h1, h2, h3, h4, _⟩ := hp.obj n _ hH
    rw [hb] at h1; cases h1
    obtain ⟨g1, g2⟩ := map_keys h3 h4
    have hfn := findNow_int (q := .i64) ents.toList l k 0 g1 (fun j p hj => (g2 j p hj).1)
    have hrun := run_findKey (w := C.w) hk hfn
    have hck : ∀ em, (Instr.checkKey em 10000 kt (.int .i64 k)).run P C.w = .ok () C.w := fun em => run_checkKey (w := C.w) hk (by simp [IsKey]) em 9999
    have hzr : (zeroValue e).run P C.w = .ok zv C.w := by
      cases hinf : P.info? e with
      | none => simp [hinf] at hz
      | some ii =>
        simp [hinf] at hz
        simp [zeroValue, typeInfo, hinf, hz]
    cases hf : fidx l k with
    | none =>
      rw [hf] at hrun
      have := (fidx_none l k z hf).1
      rw [this]
      cases co
      · refine ⟨zv, ?_, hzv C⟩
        simp [execOp, ho, hr, hiv, Instr.lookup, run_underlying (mapTy_spec ht), Go.MapKept.run_getObj_map h2, hck, hrun, hzr]
      · refine ⟨.tuple #[zv, .bool false], ?_, .tup rfl (fun j y hy => ?_)⟩
        · simp [execOp, ho, hr, hiv, Instr.lookup, run_underlying (mapTy_spec ht), Go.MapKept.run_getObj_map h2, hck, hrun, hzr]
        · match j, hy with
          | 0, hy => cases hy; exact hzv C
          | 1, hy => cases hy; exact .raw _
          | _ + 2, hy => simp at hy
    | some j =>
      rw [hf] at hrun
      obtain ⟨a, k1, k2, _⟩ := fidx_some l k z j hf
      have hva := (g2 j _ k1).2
      rw [k2]
      cases co
      · refine ⟨_, ?_, hva⟩
        simp [execOp, ho, hr, hiv, Instr.lookup, run_underlying (mapTy_spec ht), Go.MapKept.run_getObj_map h2, hck, hrun]
      · refine ⟨.tuple #[(ents.toList.getD j default).val, .bool true], ?_, .tup rfl (fun j' y hy => ?_)⟩
        · simp [execOp, ho, hr, hiv, Instr.lookup, run_underlying (mapTy_spec ht), Go.MapKept.run_getObj_map h2, hck, hrun]
        · match j', hy with
          | 0, hy => cases hy; exact hva
          | 1, hy => cases hy; exact .raw _
          | _ + 2, hy => simp at hy

theorem mapo_ents {C : Ctx} {l : List (Int × AV)} {ents : Array MapEntry} {clock : Nat} {b : Nat} (hl : ents.size = l.length) (hv : ∀ (j : Nat) (p : Int × AV), l[j]? = some p → (ents.getD j default).key = .int .i64 p.1 ∧ Vl C p.2 (ents.getD j default).val) :
    ents.size = (mpE l).length ∧ ∀ k e, (mpE l)[k]? = some e → Vl C e.1 (ents.getD k default).key ∧ Vl C e.2 (ents.getD k default).val := by
  refine ⟨by simpa [mpE] using hl, fun k e he => ?_⟩
  simp only [mpE, List.getElem?_map, Option.map_eq_some_iff] at he
  obtain ⟨p, hp, rfl⟩ := he
  obtain ⟨h1, h2⟩ := hv k p hp
  exact ⟨by rw [h1]; exact .raw _, h2⟩
/-- An entry is set. -/
theorem o_mu {t kt e : TypeId} {x i y : Operand} {n : Nat} {l : List (Int × AV)} {k : Int} {v : AV} (ht : mapTy P t = some (kt, e)) (hk : P.underlying kt = some (.int .i64))
    (hx : evx F x = some (.mp n)) (hH : H[n]? = some (.mapo (mpE l))) (hi : evx F i = some (.raw (.int .i64 k))) (hy : evx F y = some v) :
    OpOk P (.mapUpdate t x i y) F H (.raw undef) (H.set n (.mapo (mpE (mput l k v)))) := by
  intro K C ρ oo ho hp hH' hρ
  subst hH'
  have hxv := evx_eq hx ▸ hρ x
  have hiv : ρ i = .int .i64 k := Vl.raw_inv (evx_eq hi ▸ hρ i)
  have hyv : Vl C v (ρ y) := evx_eq hy ▸ hρ y
  have hnl := get_lt hH
  generalize hr : ρ x = r at hxv
  cases hxv with
  | mp hex hb =>
    rename_i b
    obtain ⟨b', ents, clock, h1, h2, h3, h4, h5, h6⟩ := hp.obj n _ hH
    rw [hb] at h1; cases h1
    obtain ⟨g1, g2⟩ := map_keys h3 h4
    have g1' : ents.size = l.length := by simpa using g1
    have g2' : ∀ (j : Nat) (p : Int × AV), l[j]? = some p → (ents.getD j default).key = .int .i64 p.1 ∧ Vl C p.2 (ents.getD j default).val := fun j p hj => by
      have := g2 j p hj
      have e : ents.toList.getD j default = ents.getD j default := by simp [List.getD]
      rw [e] at this; exact this
    have hfn := findNow_int (q := .i64) ents.toList l k 0 g1 (fun j p hj => (g2 j p hj).1)
    have hrun := run_findKey (w := C.w) hk hfn
    have hck : ∀ em, (Instr.checkKey em 10000 kt (.int .i64 k)).run P C.w = .ok () C.w := fun em => run_checkKey (w := C.w) hk (by simp [IsKey]) em 9999
    have hbl := heap_lt h2
    cases hf : fidx l k with
    | none =>
      rw [hf] at hrun
      rw [(fidx_none l k v hf).2]
      have up := hp.upd { C.w with heap := C.w.heap.setIfInBounds b (.map (ents.push { key := .int .i64 k, val := ρ y, born := clock }) (clock + 1)) } n hnl (.mapo (mpE (l ++ [(k, v)]))) (C.β n) (C.κ n) rfl rfl rfl (by simp) (fun q hq hne => by
          have : b ≠ q := fun e => hne (by rw [hb, e])
          simp [this]) (.inl rfl) _ rfl (by rw [hH])
        (fun ex => by
          have hh := mapo_ents (b := b) (C := _) (l := l ++ [(k, v)]) (ents := ents.push { key := .int .i64 k, val := ρ y, born := clock }) (clock := clock + 1) (by simp [g1']) (fun j p hj => by
            rcases Nat.lt_or_ge j l.length with hl | hl
            · rw [List.getElem?_append_left hl] at hj
              have := g2' j p hj
              have e : (ents.push { key := .int .i64 k, val := ρ y, born := clock }).getD j default = ents.getD j default := by
                simp [Array.getElem?_push, g1', Nat.ne_of_lt hl]
              rw [e]; exact ⟨this.1, this.2.mono ex⟩
            · have hj2 := get_lt hj
              simp at hj2
              have : j = l.length := by omega
              subst this
              simp at hj; subst hj
              have e : (ents.push { key := .int .i64 k, val := ρ y, born := clock }).getD l.length default = { key := .int .i64 k, val := ρ y, born := clock } := by
                rw [← g1']; simp
              rw [e]; exact ⟨rfl, hyv.mono ex⟩)
          refine ⟨b, _, clock + 1, by simpa using hb, by simp [hbl], hh.1, hh.2, fun j hj => ?_, fun i j hij hj => ?_⟩
          · simp at hj
            rcases Nat.lt_or_ge j ents.size with hl | hl
            · have e : (ents.push { key := .int .i64 k, val := ρ y, born := clock }).getD j default = ents.getD j default := by simp [Array.getElem?_push, Nat.ne_of_lt hl]
              rw [e]; have := h5 j hl; omega
            · have : j = ents.size := by omega
              subst this; simp
          · simp at hj
            have e : ∀ j, j < ents.size → (ents.push { key := .int .i64 k, val := ρ y, born := clock }).getD j default = ents.getD j default := fun j hl => by simp [Array.getElem?_push, Nat.ne_of_lt hl]
            rcases Nat.lt_or_ge j ents.size with hl | hl
            · rw [e i (by omega), e j hl]; exact h6 i j hij hl
            · have : j = ents.size := by omega
              subst this
              have e2 : (ents.push { key := .int .i64 k, val := ρ y, born := clock }).getD ents.size default = { key := .int .i64 k, val := ρ y, born := clock } := by simp
              rw [e i hij, e2]
              exact Nat.ne_of_lt (h5 i hij))
      refine ⟨.skip, undef, _, ?_, .inr ⟨rfl, rfl⟩, up.1, up.2, .raw _, rfl⟩
      simp [execOp, ho, hr, hiv, Instr.mapUpdate, run_underlying (mapTy_spec ht), Go.MapKept.run_getObj_map h2, hck, hrun, Go.MapKept.run_setObj_map _ h2]
    | some j =>
      rw [hf] at hrun
      obtain ⟨a, k1, k2, k3⟩ := fidx_some l k v j hf
      rw [k3]
      have hjl := get_lt k1
      have hkey := (g2' j _ k1).1
      have hkeyj : (ents[j]?.map (·.key)).getD (.int .i64 k) = .int .i64 k := by
        have : j < ents.size := by omega
        simp [this]
        simpa [this] using hkey
      have hstay : (Instr.keyThatStays (.int .i64 k) (.int .i64 k)).run P C.w = .ok (.int .i64 k) C.w := by simp [Instr.keyThatStays, Instr.sameBits]
      have hmod : ∀ i, (ents.modify j fun e => { e with key := .int .i64 k, val := ρ y }).getD i default = if i = j then { ents.getD j default with key := .int .i64 k, val := ρ y } else ents.getD i default := fun i => by
        have : j < ents.size := by omega
        by_cases hij : i = j
        · subst hij; simp [this, Array.getElem_modify]
        · simp [Array.getElem?_modify, hij, Ne.symm hij]
      have hborn : ∀ i, ((ents.modify j fun e => { e with key := .int .i64 k, val := ρ y }).getD i default).born = (ents.getD i default).born := fun i => by
        rw [hmod]; split
        · rename_i h; subst h; rfl
        · rfl
      have up := hp.upd { C.w with heap := C.w.heap.setIfInBounds b (.map (ents.modify j fun e => { e with key := .int .i64 k, val := ρ y }) clock) } n hnl (.mapo (mpE (l.set j (k, v)))) (C.β n) (C.κ n) rfl rfl rfl (by simp) (fun q hq hne => by
          have : b ≠ q := fun e => hne (by rw [hb, e])
          simp [this]) (.inl rfl) _ rfl (by rw [hH])
        (fun ex => by
          have hh := mapo_ents (b := b) (C := _) (l := l.set j (k, v)) (ents := ents.modify j fun e => { e with key := .int .i64 k, val := ρ y }) (clock := clock) (by simp [g1']) (fun i p hi => by
            rw [hmod]
            by_cases hij : i = j
            · subst hij
              rw [List.getElem?_set_self hjl] at hi
              cases hi
              rw [if_pos rfl]; exact ⟨rfl, hyv.mono ex⟩
            · rw [List.getElem?_set_ne (Ne.symm hij)] at hi
              rw [if_neg hij]
              have := g2' i p hi
              exact ⟨this.1, this.2.mono ex⟩)
          refine ⟨b, _, clock, by simpa using hb, by simp [hbl], hh.1, hh.2, fun i hi => ?_, fun i i' hii hi' => ?_⟩
          · simp at hi
            rw [hborn]; exact h5 i hi
          · simp at hi'
            rw [hborn, hborn]; exact h6 i i' hii hi')
      refine ⟨.skip, undef, _, ?_, .inr ⟨rfl, rfl⟩, up.1, up.2, .raw _, rfl⟩
      simp [execOp, ho, hr, hiv, Instr.mapUpdate, run_underlying (mapTy_spec ht), Go.MapKept.run_getObj_map h2, hck, hrun, hkeyj, hstay, Go.MapKept.run_setObj_map _ h2]
end
end Go.Ab
namespace Go.Ab
open Go Go.MapKept
section
variable {P : Program} {F : Frm} {H : Heap}

/-- A field of a struct that is at hand. -/
theorem o_fd {s t : TypeId} {x : Operand} {f o : Nat} {cs : List AV} {v : AV} (hf : fieldOff P s f = some (o, t)) (hn : tsize P t = some 1) (hg : tagg P t = some false) (hx : evx F x = some (.agg cs)) (h : nthX cs o = some v) : OpOk P (.field s x f) F H v H := by
  rw [nthX_eq] at h
  have hl := get_lt h
  exact ok_field hf (evx_eq hx) hg hn (by omega) (by simp [h])
theorem o_fdg {s t : TypeId} {x : Operand} {f o n : Nat} {cs r : List AV} (hf : fieldOff P s f = some (o, t)) (hn : tsize P t = some n) (hg : tagg P t = some true) (hx : evx F x = some (.agg cs)) (h : takeX n (cs.drop o) = some r) (h0 : o ≤ cs.length) : OpOk P (.field s x f) F H (.agg r) H := by
  obtain ⟨h1, h2⟩ := takeX_eq _ _ _ h
  rw [List.length_drop] at h1
  exact ok_field hf (evx_eq hx) hg hn (by omega) (by rw [if_pos rfl, h2])

/-- A map, made in its place. -/
theorem o_mmD {t : TypeId} {q : Nat} (hq : H[q]? = some .dead) : OpOk P (.makeMap t none) F H (.mp q) (H.set q (.mapo [])) := by
  intro K C ρ oo ho hp hH hρ
  subst hH
  have hql := get_lt hq
  have := hp.upd (C.w.alloc (.map #[] 0)) q hql (.mapo []) (some C.w.heap.size) 0 rfl rfl rfl (by simp) (fun b hb _ => heap_alloc_old C.w _ hb) (.inr ⟨_, rfl, Nat.le_refl _, by simp⟩) _ rfl (by rw [hq]; trivial)
    (fun ex => ⟨C.w.heap.size, #[], 0, by simp, World.alloc_heap_new C.w _, rfl, fun k e h => by simp at h, fun k h => by simp at h, fun j k _ h => by simp at h⟩)
  refine ⟨.value (.map (some C.w.heap.size)), _, _, by simp [execOp, ho, Instr.makeMap, newObj, Sem.run_bind]; rfl, .inl rfl, this.1, this.2, ?_, rfl⟩
  exact .mp ⟨[], by simp [hql]⟩ (by simp)

/-- A map with elements of one kind. -/
def mpG {α : Type} (f : α → AV) (l : List (Int × α)) : List (AV × AV) := mpE (l.map fun p => (p.1, f p.2))
theorem vl_raws_agg {C : Ctx} {vs : List Value} : Vl C (.agg (vs.map .raw)) (.agg vs.toArray) := .agg (by simp) (fun k x hx => vl_raws hx)
section
variable {α : Type} {f : α → AV} {d : α} {t kt e : TypeId} {x i y : Operand} {n : Nat} {l : List (Int × α)} {k : Int} {zv : Value}
theorem o_lkG (ht : mapTy P t = some (kt, e)) (hk : P.underlying kt = some (.int .i64)) (hz : (P.info? e).bind (·.zero) = some zv) (hzv : ∀ C, Vl C (f d) zv)
    (hx : evx F x = some (.mp n)) (hH : H[n]? = some (.mapo (mpG f l))) (hi : evx F i = some (.raw (.int .i64 k))) :
    OpOk P (.lookup t x i true) F H (.tup [f ((mget l k).getD d), .raw (.bool (mget l k).isSome)]) H := by
  have := o_lk (P := P) (z := f d) ht hk hz hzv hx hH hi true
  simp only [mget_map] at this
  have e : ((mget l k).map f).getD (f d) = f ((mget l k).getD d) := by cases mget l k <;> rfl
  rw [e, Option.isSome_map] at this
  exact this
theorem o_lkG0 (ht : mapTy P t = some (kt, e)) (hk : P.underlying kt = some (.int .i64)) (hz : (P.info? e).bind (·.zero) = some zv) (hzv : ∀ C, Vl C (f d) zv)
    (hx : evx F x = some (.mp n)) (hH : H[n]? = some (.mapo (mpG f l))) (hi : evx F i = some (.raw (.int .i64 k))) :
    OpOk P (.lookup t x i false) F H (f ((mget l k).getD d)) H := by
  have := o_lk (P := P) (z := f d) ht hk hz hzv hx hH hi false
  simp only [mget_map] at this
  have e : ((mget l k).map f).getD (f d) = f ((mget l k).getD d) := by cases mget l k <;> rfl
  rw [e] at this
  exact this
theorem o_muG {v : α} (ht : mapTy P t = some (kt, e)) (hk : P.underlying kt = some (.int .i64))
    (hx : evx F x = some (.mp n)) (hH : H[n]? = some (.mapo (mpG f l))) (hi : evx F i = some (.raw (.int .i64 k))) (hy : evx F y = some (f v)) :
    OpOk P (.mapUpdate t x i y) F H (.raw undef) (H.set n (.mapo (mpG f (mput l k v)))) := by
  have := o_mu (P := P) ht hk hx hH hi hy
  have e : mput (l.map fun p => (p.1, f p.2)) k (f v) = (mput l k v).map fun p => (p.1, f p.2) := mput_map f l k v
  rw [e] at this
  exact this
end
theorem mpG_pur {α : Type} {f : α → AV} (hf : ∀ a, Pur (f a)) (l : List (Int × α)) : ∀ x ∈ mpG f l, Pur x.1 ∧ Pur x.2 := fun x hx => by
  simp only [mpG, mpE, List.map_map, List.mem_map] at hx
  obtain ⟨p, _, rfl⟩ := hx
  exact ⟨.raw _, hf _⟩
theorem ors_mapo {H : Heap} {keep : Nat → Prop} {es : List (AV × AV)} (h : ∀ x ∈ es, Pur x.1 ∧ Pur x.2) : ORs H keep (.mapo es) (.mapo es) := by
  refine .mapo rfl (fun k x x' h1 h2 => ?_) (fun k x x' h1 h2 => ?_)
  · rw [h1] at h2; cases h2; exact (h _ (List.mem_of_getElem? h1)).1.rs
  · rw [h1] at h2; cases h2; exact (h _ (List.mem_of_getElem? h1)).2.rs
theorem ors_mpG {α : Type} {f : α → AV} (hf : ∀ a, Pur (f a)) {H : Heap} {keep : Nat → Prop} (l : List (Int × α)) : ORs H keep (.mapo (mpG f l)) (.mapo (mpG f l)) := ors_mapo (mpG_pur hf l)
end

/-! ### a map, put together step by step -/
def upTo {α : Type} (key : α → Int) : List α → List (Int × α) → List (Int × α)
  | [], m => m
  | x :: t, m => upTo key t (mput m (key x) x)
def mkM {α : Type} (key : α → Int) (l : List α) : List (Int × α) := upTo key l []
theorem upTo_snoc {α : Type} (key : α → Int) (x : α) : ∀ (l : List α) (m : List (Int × α)), upTo key (l ++ [x]) m = mput (upTo key l m) (key x) x
  | [], _ => rfl
  | y :: t, m => by simp only [List.cons_append, upTo, upTo_snoc key x t]
theorem mkM_succ {α : Type} (key : α → Int) {l : List α} {i : Nat} (h : i < l.length) : mkM key (l.take (i + 1)) = mput (mkM key (l.take i)) (key l[i]) l[i] := by
  rw [List.take_succ_eq_append_getElem h, mkM, upTo_snoc]; rfl
theorem mkM_get {α : Type} (key : α → Int) (k : Int) : ∀ (l : List α), mget (mkM key l) k = l.reverse.find? (fun x => key x == k) := by
  intro l
  generalize hn : l.length = n
  induction n generalizing l with
  | zero => have : l = [] := List.length_eq_zero_iff.1 hn
            subst this; rfl
  | succ n ih =>
    have hne : l ≠ [] := fun h => by subst h; simp at hn
    obtain ⟨m, x, rfl⟩ : ∃ m x, l = m ++ [x] := ⟨l.dropLast, l.getLast hne, (List.dropLast_concat_getLast hne).symm⟩
    have ih := ih m (by simpa using hn)
    rw [mkM, upTo_snoc, mget_put, List.reverse_append]
    by_cases h : key x = k
    · simp [h]
    · simp [h]; exact ih
theorem mkM_mem {α : Type} {key : α → Int} {k : Int} {l : List α} {x : α} (h : mget (mkM key l) k = some x) : x ∈ l ∧ key x = k := by
  rw [mkM_get] at h
  have h1 := List.mem_of_find?_eq_some h
  have h2 := List.find?_some h
  simp at h1 h2
  exact ⟨h1, h2⟩
theorem map_inj {α : Type} {key : α → Int} : ∀ {l : List α}, (l.map key).Nodup → ∀ {x y : α}, x ∈ l → y ∈ l → key x = key y → x = y
  | [], _, x, _, hx, _, _ => by cases hx
  | a :: t, hd, x, y, hx, hy, e => by
    rw [List.map_cons, List.nodup_cons] at hd
    rcases List.mem_cons.1 hx with h1 | h1
    · rcases List.mem_cons.1 hy with h2 | h2
      · rw [h1, h2]
      · exact absurd (List.mem_map.2 ⟨y, h2, by rw [← e, h1]⟩) hd.1
    · rcases List.mem_cons.1 hy with h2 | h2
      · exact absurd (List.mem_map.2 ⟨x, h1, by rw [e, h2]⟩) hd.1
      · exact map_inj hd.2 h1 h2 e
theorem mkM_uniq {α : Type} {key : α → Int} {l : List α} (hd : (l.map key).Nodup) {x : α} (hx : x ∈ l) : mget (mkM key l) (key x) = some x := by
  cases h : mget (mkM key l) (key x) with
  | none =>
    rw [mkM_get, List.find?_eq_none] at h
    have := h x (by simpa using hx)
    simp at this
  | some y =>
    obtain ⟨h1, h2⟩ := mkM_mem h
    rw [map_inj hd h1 hx h2]
theorem mkM_none {α : Type} {key : α → Int} {l : List α} {k : Int} (h : ∀ x ∈ l, key x ≠ k) : mget (mkM key l) k = none := by
  rw [mkM_get, List.find?_eq_none]
  intro x hx
  have := h x (by simpa using hx)
  simpa using this

/-- A row of zeros, filled from the left. -/
def fillR (l : List Int) (i : Nat) : List Int := l.take i ++ List.replicate (l.length - i) 0
theorem fillR_len (l : List Int) (i : Nat) (h : i ≤ l.length) : (fillR l i).length = l.length := by simp [fillR]; omega
theorem fillR_set (l : List Int) (i : Nat) (h : i < l.length) : (fillR l i).set i l[i] = fillR l (i + 1) := by
  have h1 : (l.take i).length = i := by simp; omega
  rw [fillR, List.set_append_right _ _ (by omega), h1, Nat.sub_self, fillR, List.take_succ_eq_append_getElem h, show l.length - i = (l.length - (i + 1)) + 1 by omega, List.replicate_succ, List.append_assoc]
  rfl
theorem fillR_all (l : List Int) : fillR l l.length = l := by simp [fillR]
theorem fillR_zero (l : List Int) : fillR l 0 = List.replicate l.length 0 := by simp [fillR]
end Go.Ab
namespace Go.Ab
open Go
section
variable {E : Env} {ops : Array Oper} {Q : Frm → Heap → Prop} {rest : List Oper} {F : Frm} {H : Heap} {d : Tmp} {t : TypeId} {p : String} {af : Array Edge} {g : Option (Nat × Bool)}
  {c : Operand} {xs : Array Operand} {tys : Array TypeId} {f : FuncId} {first caps vs vs' : List AV} {r : AV}

/-- One list beside another. -/
def RsGL (m : Bool) (H : Heap) (keep : Nat → Prop) : List AV → List AV → Prop
  | [], [] => True
  | x :: xs, y :: ys => RsG m H keep x y ∧ RsGL m H keep xs ys
  | _, _ => False
theorem RsGL.len {m : Bool} {H : Heap} {keep : Nat → Prop} : ∀ {xs ys : List AV}, RsGL m H keep xs ys → ys.length = xs.length
  | [], [], _ => rfl
  | [], _ :: _, h => h.elim
  | _ :: _, [], h => h.elim
  | x :: xs, y :: ys, h => by simp [RsGL.len h.2]
theorem RsGL.get {m : Bool} {H : Heap} {keep : Nat → Prop} : ∀ {xs ys : List AV}, RsGL m H keep xs ys → ∀ (k : Nat) (x x' : AV), xs[k]? = some x → ys[k]? = some x' → RsG m H keep x x'
  | [], [], _, k, x, x', h, _ => by simp at h
  | [], _ :: _, h, _, _, _, _, _ => h.elim
  | _ :: _, [], h, _, _, _, _, _ => h.elim
  | x :: xs, y :: ys, h, 0, _, _, h1, h2 => by simp at h1 h2; subst h1; subst h2; exact h.1
  | x :: xs, y :: ys, h, k + 1, _, _, h1, h2 => RsGL.get h.2 k _ _ (by simpa using h1) (by simpa using h2)

/-- A call that is lent own memory, and whose answer is new. -/
theorem a_lendF (hg : gd ops F g = some true) (hc : evx F c = some (.fn f first caps)) (hx : evs F xs.toList = some vs) (hca : callable E.P f = true)
    (h : PureCall E.P E.G f vs' r) (hrs : RsGL true H (fun _ => False) (first ++ vs ++ caps) vs') (hf : Fsh r) (k : AOps E ops Q rest ((d, r) :: F) H) :
    AOps E ops Q (⟨some d, .call { callee := .value c, args := xs, argTypes := tys }, t, p, af, g⟩ :: rest) F H :=
  a_step hg (callP rfl hc hx hca (CallS.lendF (R := (· = r)) hrs.len hrs.get (fun _ e => e ▸ hf) h.call) (by rintro r H' ⟨rfl, rfl⟩; exact k))
theorem d_lendF {pl : Plan} {i : Nat} {L : List Tmp} {ks : List Nat} (hL : pl.lksOf i = L) (hK : pl.ksOf i = ks) (hg : gd ops (restr F L) g = some true) (hc : evx (restr F L) c = some (.fn f first caps)) (hx : evs (restr F L) xs.toList = some vs) (hca : callable E.P f = true)
    (h : PureCall E.P E.G f vs' r) (hrs : ∀ y, RsGL true (msk ks y 0 H) (fun _ => False) (first ++ vs ++ caps) vs') (hf : Fsh r) (k : DOps E ops pl Q (i + 1) rest ((d, r) :: F) H) :
    DOps E ops pl Q i (⟨some d, .call { callee := .value c, args := xs, argTypes := tys }, t, p, af, g⟩ :: rest) F H :=
  d_D hL hK hg (fun y => .call c xs tys f first caps vs rfl hc hx hca (CallS.lendF (R := (· = r)) (hrs y).len (hrs y).get (fun _ e => e ▸ hf) h.call)) k
end

/-! ### how data are lent -/
theorem ln_pur {H : Heap} {x : AV} (h : Pur x) : RsG true H (fun _ => False) x x := by
  induction h with
  | any => exact .any _
  | raw v => exact .raw v
  | rp h ih => exact .rp rfl (fun k x x' h1 h2 => by rw [h1] at h2; cases h2; exact ih _ (mem_get h1))
  | sl h ih => exact .sl (Fl.le_refl _) rfl (fun k x x' h1 h2 => by rw [h1] at h2; cases h2; rfl) (fun k x x' h1 h2 => by rw [h1] at h2; cases h2; exact ih _ (mem_get h1))
  | slb h ih => exact .slb rfl (fun k x x' h1 h2 => by rw [h1] at h2; cases h2; rfl) (fun k x x' h1 h2 => by rw [h1] at h2; cases h2; exact ih _ (mem_get h1))
  | pm h h' ih ih' => exact .pm rfl (fun k x x' h1 h2 => by rw [h1] at h2; cases h2; exact ih _ (mem_get h1)) (fun k x x' h1 h2 => by rw [h1] at h2; cases h2; exact ih' _ (mem_get h1))
  | fn h h' ih ih' => exact .fn rfl rfl (fun k x x' h1 h2 => by rw [h1] at h2; cases h2; exact ih _ (mem_get h1)) (fun k x x' h1 h2 => by rw [h1] at h2; cases h2; exact ih' _ (mem_get h1))
  | agg h ih => exact .agg rfl (fun k x x' h1 h2 => by rw [h1] at h2; cases h2; exact ih _ (mem_get h1))
  | tup h ih => exact .tup rfl (fun k x x' h1 h2 => by rw [h1] at h2; cases h2; exact ih _ (mem_get h1))
theorem ln_eq {H : Heap} {x y : AV} (h : Pur y) (e : x = y) : RsG true H (fun _ => False) x y := by subst e; exact ln_pur h
theorem ln_slo {H : Heap} {i ver len z : Nat} {es es' : List AV} (h : H[i]? = some (.vec z ver es)) (hl : len = es.length) (hp : ∀ x ∈ es', Pur x) (he : es' = es) : RsG true H (fun _ => False) (.slo i ver 0 len) (.sl z fL es') := by
  subst he hl
  exact .slo id h (by simp) rfl (fun k x x' h1 h2 => by rw [List.drop_zero] at h1; rw [h1] at h2; cases h2; rfl) (fun k x x' h1 h2 => by rw [List.drop_zero] at h1; rw [h1] at h2; cases h2; exact ln_pur (hp x (mem_get h1)))
/-- An own row of own rows. -/
theorem ln_slos {H : Heap} {i ver len z : Nat} {es es' : List AV} (h : H[i]? = some (.vec z ver es)) (hl : len = es.length) (hl' : es'.length = es.length)
    (hc : ∀ (k : Nat) (x x' : AV), es[k]? = some x → es'[k]? = some x' → x'.cells.length = x.cells.length)
    (hx : ∀ (k : Nat) (x x' : AV), es[k]? = some x → es'[k]? = some x' → RsG true H (fun _ => False) x x') : RsG true H (fun _ => False) (.slo i ver 0 len) (.sl z fL es') := by
  subst hl
  exact .slo id h (by simp) hl' (fun k x x' h1 h2 => hc k x x' (by simpa using h1) h2) (fun k x x' h1 h2 => hx k x x' (by simpa using h1) h2)
theorem ln_nil {H : Heap} {z : Nat} {f : Fl} (hz : 0 < z) : RsG true H (fun _ => False) (.raw (.slice none 0 0)) (.sl z f []) := .nil hz
theorem ln_agg {H : Heap} {xs ys : List AV} (h : RsGL true H (fun _ => False) xs ys) : RsG true H (fun _ => False) (.agg xs) (.agg ys) := .agg h.len h.get
end Go.Ab
