/- What functions of this program compute, and the laws of what they compute, under the bounds on lengths that each contract states. -/
import Derived.Test.YtegbbhaghlcckaaSC
import Derived.Test.YtegbbhaghlcckaaGD

set_option linter.unusedSimpArgs false
set_option linter.unusedVariables false
namespace Go.Ab.S
open Go Go.Ab Go.Proofs

theorem gset {α : Type} {l : List α} {k : Nat} {a d : α} (h : k < l.length) (j : Nat) : (l.set k a).getD j d = if j = k then a else l.getD j d := by
  simp only [List.getD_eq_getElem?_getD, List.getElem?_set]
  by_cases hj : j = k
  · subst hj; simp [h]
  · rw [if_neg (Ne.symm hj), if_neg hj]
theorem sum_set : ∀ {l : List Int} {k : Nat} {a : Int}, k < l.length → (l.set k a).sum = l.sum - l.getD k 0 + a
  | [], _, _, h => by simp at h
  | x :: t, 0, a, _ => by simp; omega
  | x :: t, k + 1, a, h => by
    have := sum_set (l := t) (k := k) (a := a) (by simpa using h)
    simp only [List.set_cons_succ, List.sum_cons, List.getD_cons_succ, this]; omega
theorem flat_setP {α : Type} : ∀ {l : List (List α)} {k : Nat} {x : α}, k < l.length → ((l.set k (l.getD k [] ++ [x])).flatten).Perm (x :: l.flatten)
  | [], _, _, h => by simp at h
  | r :: t, 0, x, _ => by
    simp only [List.set_cons_zero, List.getD_cons_zero, List.flatten_cons, List.append_assoc]
    exact List.perm_middle
  | r :: t, k + 1, x, h => by
    simp only [List.set_cons_succ, List.getD_cons_succ, List.flatten_cons]
    exact (List.Perm.append_left r (flat_setP (l := t) (by simpa using h))).trans List.perm_middle

/-- What holds of a machine at any time. -/
structure InvM (cs : List Int) (sw : Int) (s : MS) : Prop where
  rows : s.rows.length = cs.length
  swept : s.swept.length = cs.length
  load : s.load.length = cs.length
  cnt : ∀ k, k < cs.length → ((s.rows.getD k []).length : Int) = s.load.getD k 0 + cs.getD k 0 * s.swept.getD k 0
  lo : ∀ k, k < cs.length → 0 ≤ s.load.getD k 0 ∧ s.load.getD k 0 ≤ cs.getD k 0
  sp : ∀ k, k < cs.length → 0 ≤ s.swept.getD k 0 ∧ (0 < s.swept.getD k 0 → 0 < s.load.getD k 0)
  sum : s.swept.sum + s.sweeps = sw
  s0 : 0 ≤ s.sweeps
  ov : s.over ≠ [] → s.sweeps = 0

theorem InvM.note {cs : List Int} {sw : Int} {s : MS} (e : EvR) (h : InvM cs sw s) : InvM cs sw (noteM s e) := ⟨h.rows, h.swept, h.load, h.cnt, h.lo, h.sp, h.sum, h.s0, h.ov⟩
theorem InvM.rej {cs : List Int} {sw : Int} {s : MS} (x : Int) (h : InvM cs sw s) : InvM cs sw (rejM s x) := ⟨h.rows, h.swept, h.load, h.cnt, h.lo, h.sp, h.sum, h.s0, h.ov⟩
theorem InvM.over {cs : List Int} {sw : Int} {s : MS} (x : Int) (h : InvM cs sw s) (h0 : s.sweeps = 0) : InvM cs sw (overM s x) := ⟨h.rows, h.swept, h.load, h.cnt, h.lo, h.sp, h.sum, h.s0, fun _ => h0⟩
theorem getD_repl {α : Type} (n k : Nat) (a : α) : (List.replicate n a).getD k a = a := by
  simp only [List.getD_eq_getElem?_getD, List.getElem?_replicate]; split <;> rfl
theorem sum_repl : ∀ n : Nat, (List.replicate n (0 : Int)).sum = 0
  | 0 => rfl
  | n + 1 => by simp [List.replicate_succ, sum_repl n]
theorem newM_inv {cs : List Int} {sw : Int} (h0 : 0 ≤ sw) (hc : ∀ c ∈ cs, 1 ≤ c) : InvM cs sw (newM cs sw) where
  rows := by simp [newM]
  swept := by simp [newM]
  load := by simp [newM]
  cnt := fun k _ => by simp only [newM, getD_repl]; simp
  lo := fun k hk => by
    simp only [newM, getD_repl]
    have := hc _ (List.getElem_mem hk)
    rw [getDi hk]; omega
  sp := fun k _ => by simp only [newM, getD_repl]; omega
  sum := by simp only [newM, sum_repl]; omega
  s0 := h0
  ov := fun h => absurd rfl h

/-- One item goes to its stacker. -/
theorem InvM.stack {cs : List Int} {sw : Int} {s : MS} {k : Nat} (x : Int) (h : InvM cs sw s) (hk : k < cs.length) (hl : s.load.getD k 0 < cs.getD k 0) : InvM cs sw (stackM s k x) where
  rows := by simp only [stackM, List.length_set]; exact h.rows
  swept := h.swept
  load := by simp only [stackM, List.length_set]; exact h.load
  cnt := fun j hj => by
    have h1 := h.rows; have h2 := h.load
    have hc := h.cnt j hj
    simp only [stackM]
    rw [gset (by omega), gset (by omega)]
    split
    · subst j; rw [List.length_append, List.length_singleton]; omega
    · exact hc
  lo := fun j hj => by
    have h2 := h.load
    have hc := h.lo j hj
    simp only [stackM]
    rw [gset (by omega)]
    split
    · subst j; omega
    · exact hc
  sp := fun j hj => by
    have h2 := h.load
    have hc := h.lo j hj
    have hd := h.sp j hj
    simp only [stackM]
    rw [gset (by omega)]
    split
    · subst j; exact ⟨hd.1, fun _ => by omega⟩
    · exact hd
  sum := h.sum
  s0 := h.s0
  ov := h.ov

/-- A sweep, and the item behind it. -/
theorem InvM.sweepStack {cs : List Int} {sw : Int} {s : MS} {k : Nat} (x : Int) (h : InvM cs sw s) (hk : k < cs.length) (h1 : 1 ≤ cs.getD k 0) (hl : s.load.getD k 0 = cs.getD k 0) (hs : 0 < s.sweeps) : InvM cs sw (stackM (sweepM s k) k x) where
  rows := by simp only [stackM, sweepM, List.length_set]; exact h.rows
  swept := by simp only [stackM, sweepM, List.length_set]; exact h.swept
  load := by simp only [stackM, sweepM, List.length_set]; exact h.load
  cnt := fun j hj => by
    have h2 := h.rows; have h3 := h.load; have h4 := h.swept
    have hc := h.cnt j hj
    simp only [stackM, sweepM]
    rw [gset (by omega), gset (by rw [List.length_set]; omega), gset (by omega), gset (by omega), gset (by omega)]
    split
    · subst j; rw [List.length_append, List.length_singleton, if_pos rfl, Int.mul_add]; omega
    · rw [hc]
  lo := fun j hj => by
    have h3 := h.load
    have hc := h.lo j hj
    simp only [stackM, sweepM]
    rw [gset (by rw [List.length_set]; omega), gset (by omega), gset (by omega)]
    split
    · subst j; rw [if_pos rfl]; omega
    · exact hc
  sp := fun j hj => by
    have h3 := h.load; have h4 := h.swept
    have hc := h.sp j hj
    simp only [stackM, sweepM]
    rw [gset (show k < s.swept.length by omega), gset (show k < (s.load.set k 0).length by rw [List.length_set]; omega), gset (show k < s.load.length by omega), gset (show k < s.load.length by omega)]
    split
    · subst j; rw [if_pos rfl]; omega
    · exact hc
  sum := by
    have h4 := h.swept
    have := h.sum
    simp only [stackM, sweepM]
    rw [sum_set (by omega)]; omega
  s0 := by simp only [stackM, sweepM]; omega
  ov := fun ho => by have := h.ov ho; omega

/-- What a step does: rejects, stacks, sweeps and stacks, or finds no room. -/
theorem stepM_cases (cs : List Int) (s : MS) (x : FeedR) (P : MS → Prop) (hlen : s.load.length = cs.length) (hx : x.stk < cs.length) (hpos : ∀ c ∈ cs, 1 ≤ c)
    (h1 : x.stk < 0 → P (noteM (rejM s x.item) ⟨4, x.item, -1⟩))
    (h2 : ∀ k : Nat, x.stk = k → k < cs.length → s.load.getD k 0 ≠ cs.getD k 0 → P (noteM (stackM s k x.item) ⟨1, x.item, k⟩))
    (h3 : ∀ k : Nat, x.stk = k → k < cs.length → s.load.getD k 0 = cs.getD k 0 → 0 < s.sweeps → P (noteM (stackM (noteM (sweepM s k) ⟨2, x.item, k⟩) k x.item) ⟨1, x.item, k⟩))
    (h4 : ∀ k : Nat, x.stk = k → k < cs.length → s.load.getD k 0 = cs.getD k 0 → ¬ 0 < s.sweeps → P (noteM (overM s x.item) ⟨3, x.item, k⟩)) : P (stepM cs s x) := by
  unfold stepM
  split
  · rename_i h; exact h1 h
  · obtain ⟨k, hk⟩ : ∃ k : Nat, x.stk = k := ⟨x.stk.toNat, by omega⟩
    have hkc : k < cs.length := by omega
    have hp := hpos _ (List.getElem_mem hkc)
    rw [← getDi hkc] at hp
    rw [hk, Int.toNat_natCast]
    by_cases hl : s.load.getD k 0 = cs.getD k 0
    · by_cases hs : 0 < s.sweeps
      · rw [if_pos ⟨hl, hs⟩]
        unfold tailM
        rw [hk, Int.toNat_natCast, if_neg]
        · exact h3 k hk hkc hl hs
        · simp only [noteM, sweepM]
          rw [gset (by omega), if_pos rfl]; omega
      · rw [if_neg (fun h => hs h.2)]
        unfold tailM
        rw [hk, Int.toNat_natCast, if_pos hl]
        exact h4 k hk hkc hl hs
    · rw [if_neg (fun h => hl h.1)]
      unfold tailM
      rw [hk, Int.toNat_natCast, if_neg hl]
      exact h2 k hk hkc hl
theorem stackM_note (s : MS) (k : Nat) (x : Int) (e : EvR) : stackM (noteM s e) k x = noteM (stackM s k x) e := rfl
theorem InvM.step {cs : List Int} {sw : Int} {s : MS} {x : FeedR} (h : InvM cs sw s) (hpos : ∀ c ∈ cs, 1 ≤ c) (hx : x.stk < cs.length) : InvM cs sw (stepM cs s x) := by
  refine stepM_cases cs s x _ h.load hx hpos (fun h1 => (h.rej _).note _) (fun k hk hkc hl => ?_) (fun k hk hkc hl hs => ?_) (fun k hk hkc hl hs => ?_)
  · have := h.lo k hkc
    exact (h.stack x.item hkc (by omega)).note _
  · rw [stackM_note]
    have hp := hpos _ (List.getElem_mem hkc)
    rw [← getDi hkc] at hp
    exact ((h.sweepStack x.item hkc hp hl hs).note _).note _
  · have := h.s0
    exact (h.over x.item (by omega)).note _
theorem playS_inv {cs : List Int} {sw : Int} {l : List FeedR} (hpos : ∀ c ∈ cs, 1 ≤ c) (h0 : 0 ≤ sw) (hin : ∀ x ∈ l, x.stk < cs.length) : ∀ i, i ≤ l.length → InvM cs sw (playS cs sw l i)
  | 0, _ => newM_inv h0 hpos
  | i + 1, h => by
    rw [playS_succ (by omega)]
    exact (playS_inv hpos h0 hin i (by omega)).step hpos (hin _ (List.getElem_mem _))

/-- All items of a machine. -/
def allM (s : MS) : List Int := s.rows.flatten ++ s.over ++ s.rej
theorem allM_step {cs : List Int} {sw : Int} {s : MS} {x : FeedR} (h : InvM cs sw s) (hpos : ∀ c ∈ cs, 1 ≤ c) (hx : x.stk < cs.length) : (allM (stepM cs s x)).Perm (x.item :: allM s) := by
  have hstack : ∀ k, k < cs.length → (allM (stackM s k x.item)).Perm (x.item :: allM s) := fun k hk => by
    have h1 := h.rows
    simp only [allM, stackM, List.append_assoc]
    exact List.Perm.append_right _ (flat_setP (by omega))
  refine stepM_cases cs s x (fun t => (allM t).Perm (x.item :: allM s)) h.load hx hpos (fun h1 => ?_) (fun k hk hkc hl => hstack k hkc) (fun k hk hkc hl hs => hstack k hkc) (fun k hk hkc hl hs => ?_)
  · simp only [allM, noteM, rejM]
    rw [← List.append_assoc]
    exact List.perm_append_comm
  · simp only [allM, noteM, overM, List.append_assoc]
    exact (List.Perm.append_left _ List.perm_middle).trans List.perm_middle
theorem playS_all_perm {cs : List Int} {sw : Int} {l : List FeedR} (hpos : ∀ c ∈ cs, 1 ≤ c) (h0 : 0 ≤ sw) (hin : ∀ x ∈ l, x.stk < cs.length) : ∀ i, i ≤ l.length → (allM (playS cs sw l i)).Perm ((l.take i).map (·.item))
  | 0, _ => by simp [playS, newM, allM]
  | i + 1, h => by
    rw [playS_succ (by omega), List.take_succ_eq_append_getElem (by omega), List.map_append]
    refine (allM_step (playS_inv hpos h0 hin i (by omega)) hpos (hin _ (List.getElem_mem _))).trans ?_
    refine ((playS_all_perm hpos h0 hin i (by omega)).cons _).trans ?_
    exact List.perm_append_comm (l₁ := [_])
/-- The rows of a machine only grow. -/
structure Grows (s t : MS) : Prop where
  rows : ∀ k, s.rows.getD k [] <+: t.rows.getD k []
  over : s.over <+: t.over
  rej : s.rej <+: t.rej
  ev : s.ev <+: t.ev
theorem Grows.refl (s : MS) : Grows s s := ⟨fun _ => List.prefix_rfl, List.prefix_rfl, List.prefix_rfl, List.prefix_rfl⟩
theorem Grows.trans {s t u : MS} (h : Grows s t) (k : Grows t u) : Grows s u := ⟨fun j => (h.rows j).trans (k.rows j), h.over.trans k.over, h.rej.trans k.rej, h.ev.trans k.ev⟩
theorem grows_note (s : MS) (e : EvR) : Grows s (noteM s e) := ⟨fun _ => List.prefix_rfl, List.prefix_rfl, List.prefix_rfl, List.prefix_append _ _⟩
theorem grows_stack (s : MS) (k : Nat) (x : Int) : Grows s (stackM s k x) := by
  refine ⟨fun j => ?_, List.prefix_rfl, List.prefix_rfl, List.prefix_rfl⟩
  simp only [stackM]
  rcases Nat.lt_or_ge k s.rows.length with h | h
  · rw [gset h]
    split
    · subst j; exact List.prefix_append _ _
    · exact List.prefix_rfl
  · rw [List.set_eq_of_length_le h]; exact List.prefix_rfl
theorem grows_step (cs : List Int) (s : MS) (x : FeedR) : Grows s (stepM cs s x) := by
  have hsw : ∀ k, Grows s (sweepM s k) := fun k => ⟨fun _ => List.prefix_rfl, List.prefix_rfl, List.prefix_rfl, List.prefix_rfl⟩
  have htail : ∀ t, Grows s t → Grows s (tailM cs t x) := fun t ht => by
    unfold tailM
    split
    · exact ht.trans ⟨fun _ => List.prefix_rfl, List.prefix_append _ _, List.prefix_rfl, List.prefix_append _ _⟩
    · exact ht.trans ((grows_stack t _ _).trans (grows_note _ _))
  unfold stepM
  split
  · exact ⟨fun _ => List.prefix_rfl, List.prefix_rfl, List.prefix_append _ _, List.prefix_append _ _⟩
  · split
    · exact htail _ ((hsw _).trans (grows_note _ _))
    · exact htail _ (.refl s)
theorem playS_grows (cs : List Int) (sw : Int) (l : List FeedR) : ∀ d i, i + d ≤ l.length → Grows (playS cs sw l i) (playS cs sw l (i + d))
  | 0, i, _ => .refl _
  | d + 1, i, h => by
    rw [show i + (d + 1) = (i + d) + 1 by omega, playS_succ (show i + d < l.length by omega)]
    exact (playS_grows cs sw l d i (by omega)).trans (grows_step ..)
theorem playS_growsF (cs : List Int) (sw : Int) (l : List FeedR) {i : Nat} (h : i ≤ l.length) : Grows (playS cs sw l i) (playF cs sw l) := by
  rw [← playS_all]
  have := playS_grows cs sw l (l.length - i) i (by omega)
  rwa [show i + (l.length - i) = l.length by omega] at this
end Go.Ab.S
namespace Go.Ab.S
open Go Go.Ab Go.Proofs

/-! ### SorterKeeps -/
def atK (s : MS) : List Int := s.rows.map (fun r => (r.length : Int)) ++ [(s.rej.length : Int), (s.over.length : Int)]
theorem atK_len (s : MS) : (atK s).length = s.rows.length + 2 := by simp [atK]
theorem pre_at {α : Type} {a f : List α} {x d : α} (h : a ++ [x] <+: f) : a.length < f.length ∧ f.getD a.length d = x := by
  obtain ⟨t, rfl⟩ := h
  refine ⟨by simp, ?_⟩
  simp [List.getD_eq_getElem?_getD]
theorem atK_get {s : MS} {k : Nat} (h : k < s.rows.length) : (atK s).getD k 0 = ((s.rows.getD k []).length : Int) := by
  simp only [atK, List.getD_eq_getElem?_getD]
  rw [List.getElem?_append_left (by simpa using h), List.getElem?_map, List.getElem?_eq_getElem h]; rfl
theorem atK_rej {s : MS} {n : Nat} (h : n = s.rows.length) : (atK s).getD n 0 = (s.rej.length : Int) := by
  simp only [atK, List.getD_eq_getElem?_getD]
  rw [List.getElem?_append_right (by simp; omega)]; simp [h]
theorem atK_over {s : MS} {n : Nat} (h : n = s.rows.length + 1) : (atK s).getD n 0 = (s.over.length : Int) := by
  simp only [atK, List.getD_eq_getElem?_getD]
  rw [List.getElem?_append_right (by simp; omega)]; simp [h]
theorem atK_note (s : MS) (e : EvR) : atK (noteM s e) = atK s := rfl
theorem atK_rejM {s : MS} {x : Int} {n : Nat} (h : n = s.rows.length) : atK (rejM s x) = (atK s).set n ((s.rej.length : Int) + 1) := by
  subst h
  simp only [atK, rejM, List.length_append, List.length_singleton]
  rw [List.set_append_right _ _ (by simp)]; simp
theorem atK_overM {s : MS} {x : Int} {n : Nat} (h : n = s.rows.length + 1) : atK (overM s x) = (atK s).set n ((s.over.length : Int) + 1) := by
  subst h
  simp only [atK, overM, List.length_append, List.length_singleton]
  rw [List.set_append_right _ _ (by simp)]; simp
theorem atK_stackM {s : MS} {x : Int} {k : Nat} (h : k < s.rows.length) : atK (stackM s k x) = (atK s).set k (((s.rows.getD k []).length : Int) + 1) := by
  simp only [atK, stackM]
  rw [List.set_append_left _ _ (by simpa using h), List.map_set, List.length_append, List.length_singleton]; rfl

section
variable {cs : List Int} {sw : Int} {l : List FeedR}
theorem keep_rej (h0 : 0 ≤ sw) (hpos : ∀ c ∈ cs, 1 ≤ c) (hin : ∀ x ∈ l, x.stk < cs.length) {i : Nat} (hi : i < l.length) (hx : l[i].stk < 0) :
    (playS cs sw l i).rej.length < (playF cs sw l).rej.length ∧ (playF cs sw l).rej.getD (playS cs sw l i).rej.length 0 = l[i].item ∧
      atK (playS cs sw l (i + 1)) = (atK (playS cs sw l i)).set cs.length (((playS cs sw l i).rej.length : Int) + 1) := by
  have hv := playS_inv hpos h0 hin i (by omega)
  have hs : playS cs sw l (i + 1) = noteM (rejM (playS cs sw l i) l[i].item) ⟨4, l[i].item, -1⟩ := by rw [playS_succ hi, stepM, if_pos hx]
  have hg := (playS_growsF cs sw l (show i + 1 ≤ l.length by omega)).rej
  rw [hs] at hg ⊢
  have := pre_at (d := 0) hg
  exact ⟨this.1, this.2, atK_rejM hv.rows.symm⟩
theorem nodup_apart {s : MS} (h : (allM s).Nodup) {x : Int} (h1 : x ∈ s.rows.flatten) (h2 : x ∈ s.over) : False := by
  rw [allM, List.append_assoc, List.nodup_append] at h
  exact h.2.2 x h1 x (List.mem_append_left _ h2) rfl
theorem playF_nodup (h0 : 0 ≤ sw) (hpos : ∀ c ∈ cs, 1 ≤ c) (hin : ∀ x ∈ l, x.stk < cs.length) (hd : (l.map (·.item)).Nodup) : (allM (playF cs sw l)).Nodup := by
  have := playS_all_perm hpos h0 hin l.length (Nat.le_refl _)
  rw [playS_all, List.take_length] at this
  exact this.nodup_iff.2 hd
theorem playF_count (h0 : 0 ≤ sw) (hpos : ∀ c ∈ cs, 1 ≤ c) (hin : ∀ x ∈ l, x.stk < cs.length) : (allM (playF cs sw l)).length = l.length := by
  have := playS_all_perm hpos h0 hin l.length (Nat.le_refl _)
  rw [playS_all, List.take_length] at this
  rw [this.length_eq, List.length_map]
theorem mem_rows {rows : List (List Int)} {k n : Nat} {x : Int} (h : n < (rows.getD k []).length) (hx : (rows.getD k []).getD n 0 = x) : x ∈ rows.flatten := by
  rcases Nat.lt_or_ge k rows.length with hk | hk
  · rw [getDg hk] at h hx
    rw [getDi h] at hx
    exact List.mem_flatten.2 ⟨_, List.getElem_mem hk, hx ▸ List.getElem_mem h⟩
  · rw [List.getD_eq_getElem?_getD, List.getElem?_eq_none hk] at h; simp at h
theorem keep_stk (h0 : 0 ≤ sw) (hpos : ∀ c ∈ cs, 1 ≤ c) (hin : ∀ x ∈ l, x.stk < cs.length) (hd : (l.map (·.item)).Nodup) {i k : Nat} (hi : i < l.length) (hk : l[i].stk = k) :
    (((playS cs sw l i).rows.getD k []).length < ((playF cs sw l).rows.getD k []).length ∧ ((playF cs sw l).rows.getD k []).getD ((playS cs sw l i).rows.getD k []).length 0 = l[i].item ∧
      atK (playS cs sw l (i + 1)) = (atK (playS cs sw l i)).set k ((((playS cs sw l i).rows.getD k []).length : Int) + 1)) ∨
    (¬ (((playS cs sw l i).rows.getD k []).length < ((playF cs sw l).rows.getD k []).length ∧ ((playF cs sw l).rows.getD k []).getD ((playS cs sw l i).rows.getD k []).length 0 = l[i].item) ∧
      (playS cs sw l i).over.length < (playF cs sw l).over.length ∧ (playF cs sw l).over.getD (playS cs sw l i).over.length 0 = l[i].item ∧
      atK (playS cs sw l (i + 1)) = (atK (playS cs sw l i)).set (cs.length + 1) (((playS cs sw l i).over.length : Int) + 1)) := by
  have hv := playS_inv hpos h0 hin i (by omega)
  have hg := playS_growsF cs sw l (show i + 1 ≤ l.length by omega)
  have hnd := playF_nodup h0 hpos hin hd
  have hr := hv.rows
  have hkc : k < cs.length := by have := hin _ (List.getElem_mem hi); omega
  have hstack : ∀ t : MS, t.rows = (playS cs sw l i).rows → t.rej = (playS cs sw l i).rej → t.over = (playS cs sw l i).over → ∀ e, playS cs sw l (i + 1) = noteM (stackM t k l[i].item) e →
      (((playS cs sw l i).rows.getD k []).length < ((playF cs sw l).rows.getD k []).length ∧ ((playF cs sw l).rows.getD k []).getD ((playS cs sw l i).rows.getD k []).length 0 = l[i].item ∧
      atK (playS cs sw l (i + 1)) = (atK (playS cs sw l i)).set k ((((playS cs sw l i).rows.getD k []).length : Int) + 1)) := fun t h1 h2 h3 e hs => by
    have hgr := hg.rows k
    rw [hs] at hgr ⊢
    have e1 : (noteM (stackM t k l[i].item) e).rows.getD k [] = (playS cs sw l i).rows.getD k [] ++ [l[i].item] := by
      simp only [noteM, stackM, h1]
      rw [gset (by omega), if_pos rfl]
    rw [e1] at hgr
    have hp := pre_at (d := 0) hgr
    refine ⟨hp.1, hp.2, ?_⟩
    rw [atK_note, atK_stackM (by rw [h1]; omega), h1]
    simp only [atK, h1, h2, h3]
  refine stepM_cases cs (playS cs sw l i) l[i] (fun t => playS cs sw l (i + 1) = t → _) hv.load (hin _ (List.getElem_mem hi)) hpos (fun h => ?_) (fun k' hk' _ _ hs => ?_) (fun k' hk' _ _ _ hs => ?_) (fun k' hk' _ _ _ hs => ?_) (playS_succ hi)
  · omega
  · have : k' = k := by omega
    subst this
    exact .inl (hstack _ rfl rfl rfl _ hs)
  · have : k' = k := by omega
    subst this
    exact .inl (hstack (noteM (sweepM (playS cs sw l i) k') _) rfl rfl rfl _ hs)
  · have hgo := hg.over
    rw [hs] at hgo
    have hp := pre_at (d := 0) (a := (playS cs sw l i).over) (x := l[i].item) hgo
    have hmem : l[i].item ∈ (playF cs sw l).over := by
      have := List.getElem_mem hp.1
      rwa [← getDi hp.1, hp.2] at this
    refine .inr ⟨fun hh => nodup_apart hnd (mem_rows hh.1 hh.2) hmem, hp.1, hp.2, ?_⟩
    rw [hs, atK_note, atK_overM (n := cs.length + 1) (by omega)]
end

/-! ### SorterEvents -/
/-- The events of some items tell what the machine does. -/
inductive Ev (cs : List Int) : List FeedR → List EvR → List Int → Int → Prop
  | done {load : List Int} {s : Int} : Ev cs [] [] load s
  | swept {x : FeedR} {l : List FeedR} {e : EvR} {E : List EvR} {load : List Int} {s : Int} {k : Nat} (hx : x.stk = k) (hk : k < cs.length) (hl : load.getD k 0 = cs.getD k 0) (hs : 0 < s) (he : e.kind = 1)
      (h : Ev cs (x :: l) (e :: E) (load.set k 0) (s - 1)) : Ev cs (x :: l) (⟨2, x.item, k⟩ :: e :: E) load s
  | stacked {x : FeedR} {l : List FeedR} {E : List EvR} {load : List Int} {s : Int} {k : Nat} (hx : x.stk = k) (hk : k < cs.length) (hl : load.getD k 0 ≠ cs.getD k 0)
      (h : Ev cs l E (load.set k (load.getD k 0 + 1)) s) : Ev cs (x :: l) (⟨1, x.item, k⟩ :: E) load s
  | over {x : FeedR} {l : List FeedR} {E : List EvR} {load : List Int} {s : Int} {k : Nat} (hx : x.stk = k) (hk : k < cs.length) (hl : load.getD k 0 = cs.getD k 0) (hs : s = 0)
      (h : Ev cs l E load s) : Ev cs (x :: l) (⟨3, x.item, k⟩ :: E) load s
  | rej {x : FeedR} {l : List FeedR} {E : List EvR} {load : List Int} {s : Int} (hx : x.stk = -1) (h : Ev cs l E load s) : Ev cs (x :: l) (⟨4, x.item, -1⟩ :: E) load s

theorem fold_ev {cs : List Int} (hpos : ∀ c ∈ cs, 1 ≤ c) : ∀ (l : List FeedR) (s : MS), (∀ x ∈ l, -1 ≤ x.stk ∧ x.stk < cs.length) → s.load.length = cs.length → 0 ≤ s.sweeps →
    ∃ E, (l.foldl (stepM cs) s).ev = s.ev ++ E ∧ Ev cs l E s.load s.sweeps
  | [], s, _, _, _ => ⟨[], by simp, .done⟩
  | x :: l, s, hin, hl, h0 => by
    have hx := hin x (by simp)
    have hin' : ∀ y ∈ l, -1 ≤ y.stk ∧ y.stk < cs.length := fun y hy => hin y (by simp [hy])
    simp only [List.foldl_cons]
    refine stepM_cases cs s x (fun t => ∃ E, (l.foldl (stepM cs) t).ev = s.ev ++ E ∧ Ev cs (x :: l) E s.load s.sweeps) hl hx.2 hpos (fun h => ?_) (fun k hk hkc hlk => ?_) (fun k hk hkc hlk hs => ?_) (fun k hk hkc hlk hs => ?_)
    · obtain ⟨E, h1, h2⟩ := fold_ev hpos l (noteM (rejM s x.item) ⟨4, x.item, -1⟩) hin' hl h0
      exact ⟨_, by rw [h1]; simp [noteM, rejM], .rej (by omega) h2⟩
    · obtain ⟨E, h1, h2⟩ := fold_ev hpos l (noteM (stackM s k x.item) ⟨1, x.item, k⟩) hin' (by simp [noteM, stackM, hl]) h0
      exact ⟨_, by rw [h1]; simp [noteM, stackM], .stacked hk hkc hlk h2⟩
    · obtain ⟨E, h1, h2⟩ := fold_ev hpos l (noteM (stackM (noteM (sweepM s k) ⟨2, x.item, k⟩) k x.item) ⟨1, x.item, k⟩) hin' (by simp [noteM, stackM, sweepM, hl]) (by simp only [noteM, stackM, sweepM]; omega)
      refine ⟨_, by rw [h1]; simp [noteM, stackM, sweepM], .swept hk hkc hlk hs rfl (.stacked hk hkc ?_ h2)⟩
      have := hpos _ (List.getElem_mem hkc)
      rw [gset (by omega), if_pos rfl, getDi hkc]; omega
    · obtain ⟨E, h1, h2⟩ := fold_ev hpos l (noteM (overM s x.item) ⟨3, x.item, k⟩) hin' hl h0
      exact ⟨_, by rw [h1]; simp [noteM, overM], .over hk hkc hlk (by omega) h2⟩
theorem play_ev {cs : List Int} (hpos : ∀ c ∈ cs, 1 ≤ c) {sw : Int} {l : List FeedR} (hin : ∀ x ∈ l, -1 ≤ x.stk ∧ x.stk < cs.length) (h0 : 0 ≤ sw) : Ev cs l (playF cs sw l).ev (List.replicate cs.length 0) sw := by
  obtain ⟨E, h1, h2⟩ := fold_ev hpos l (newM cs sw) hin (by simp [newM]) h0
  have : (playF cs sw l).ev = E := by rw [playF, h1]; rfl
  rw [this]; exact h2

/-! ### SorterNeeds -/
section
variable {cs : List Int} {l : List FeedR}
theorem need_play (hpos : ∀ c ∈ cs, 1 ≤ c) (hin : ∀ x ∈ l, x.stk < cs.length) {sw : Int} (h0 : 0 ≤ sw) : ∀ i, i ≤ l.length →
    ((needS cs l i).2 ≤ sw → (playS cs sw l i).load = (needS cs l i).1 ∧ (playS cs sw l i).sweeps = sw - (needS cs l i).2 ∧ (playS cs sw l i).over = []) ∧ (sw < (needS cs l i).2 → (playS cs sw l i).over ≠ [])
  | 0, _ => ⟨fun _ => ⟨rfl, by show sw = sw - 0; omega, rfl⟩, fun h => by have : sw < 0 := h; omega⟩
  | i + 1, h => by
    obtain ⟨ih1, ih2⟩ := need_play hpos hin h0 i (by omega)
    have hi : i < l.length := by omega
    have hv := playS_inv hpos h0 hin i (by omega)
    have hg := (grows_step cs (playS cs sw l i) l[i]).over
    rw [← playS_succ hi] at hg
    have hns := needS_succ (cs := cs) hi
    have hmono : (needS cs l i).2 ≤ (needS cs l (i + 1)).2 := by
      rw [hns, needStep]; split
      · exact Int.le_refl _
      · split
        · dsimp only; omega
        · exact Int.le_refl _
    by_cases hle : (needS cs l i).2 ≤ sw
    · obtain ⟨a1, a2, a3⟩ := ih1 hle
      refine stepM_cases cs (playS cs sw l i) l[i] (fun t => playS cs sw l (i + 1) = t → _) hv.load (hin _ (List.getElem_mem hi)) hpos (fun hx hs => ?_) (fun k hk hkc hlk hs => ?_) (fun k hk hkc hlk hsw hs => ?_) (fun k hk hkc hlk hsw hs => ?_) (playS_succ hi)
      · have e : needS cs l (i + 1) = needS cs l i := by rw [hns, needStep, if_pos hx]
        rw [hs, e]
        exact ⟨fun _ => ⟨a1, a2, a3⟩, fun hh => by omega⟩
      · have hlo := hv.lo k hkc
        have e : needS cs l (i + 1) = ((needS cs l i).1.set k ((needS cs l i).1.getD k 0 + 1), (needS cs l i).2) := by
          rw [hns, needStep, if_neg (by omega), hk, Int.toNat_natCast, if_neg (by rw [← a1]; omega)]
        rw [hs, e]
        exact ⟨fun _ => ⟨by rw [← a1]; rfl, a2, a3⟩, fun hh => by dsimp only at hh; omega⟩
      · have e : needS cs l (i + 1) = ((needS cs l i).1.set k 1, (needS cs l i).2 + 1) := by
          rw [hns, needStep, if_neg (by omega), hk, Int.toNat_natCast, if_pos (by rw [← a1]; omega)]
        have hkl : k < (playS cs sw l i).load.length := by rw [hv.load]; exact hkc
        rw [hs, e]
        refine ⟨fun hh => ⟨?_, ?_, a3⟩, fun hh => by dsimp only at hh; omega⟩
        · simp only [noteM, stackM, sweepM]
          rw [gset hkl, if_pos rfl, List.set_set, a1]; rfl
        · simp only [noteM, stackM, sweepM]; omega
      · have e : needS cs l (i + 1) = ((needS cs l i).1.set k 1, (needS cs l i).2 + 1) := by
          rw [hns, needStep, if_neg (by omega), hk, Int.toNat_natCast, if_pos (by rw [← a1]; omega)]
        have := hv.s0
        rw [hs, e]
        exact ⟨fun hh => by dsimp only at hh; omega, fun _ => by simp [noteM, overM]⟩
    · refine ⟨fun hh => by omega, fun _ hn => ih2 (by omega) ?_⟩
      rw [hn] at hg
      exact List.prefix_nil.1 hg
theorem need_iff (hpos : ∀ c ∈ cs, 1 ≤ c) (hin : ∀ x ∈ l, x.stk < cs.length) {sw : Int} (h0 : 0 ≤ sw) : (playF cs sw l).over = [] ↔ needN cs l ≤ sw := by
  have := need_play hpos hin h0 l.length (Nat.le_refl _)
  rw [playS_all] at this
  refine ⟨fun h => ?_, fun h => (this.1 h).2.2⟩
  rcases Int.lt_or_le sw (needN cs l) with h1 | h1
  · exact absurd h (this.2 h1)
  · exact h1
/-- A machine with one sweep more, beside one. -/
inductive Two1 (cs : List Int) (a b : MS) : Prop
  | same (h1 : b.load = a.load) (h2 : b.sweeps = a.sweeps + 1) (h3 : b.over = a.over)
  | later (h1 : ∀ k, k < cs.length → b.load.getD k 0 ≤ a.load.getD k 0) (h2 : a.sweeps = 0) (h3 : b.sweeps = 0) (h4 : List.Sublist b.over a.over)
theorem two1_step (hpos : ∀ c ∈ cs, 1 ≤ c) {sa sb : Int} {a b : MS} (ha : InvM cs sa a) (hb : InvM cs sb b) {x : FeedR} (hx : x.stk < cs.length) (h : Two1 cs a b) : Two1 cs (stepM cs a x) (stepM cs b x) := by
  have hla := ha.load; have hlb := hb.load
  refine stepM_cases cs a x (fun t => Two1 cs t (stepM cs b x)) ha.load hx hpos (fun h1 => ?_) (fun k hk hkc hlk => ?_) (fun k hk hkc hlk hs => ?_) (fun k hk hkc hlk hs => ?_)
  · refine stepM_cases cs b x (fun t => Two1 cs _ t) hb.load hx hpos (fun _ => ?_) (fun k hk _ _ => by omega) (fun k hk _ _ _ => by omega) (fun k hk _ _ _ => by omega)
    cases h with
    | same g1 g2 g3 => exact .same g1 g2 g3
    | later g1 g2 g3 g4 => exact .later g1 g2 g3 g4
  · have hal := ha.lo k hkc
    refine stepM_cases cs b x (fun t => Two1 cs _ t) hb.load hx hpos (fun _ => by omega) (fun k' hk' _ hlk' => ?_) (fun k' hk' _ hlk' hs' => ?_) (fun k' hk' _ hlk' hs' => ?_)
    all_goals (have : k' = k := by omega)
    all_goals subst this
    · cases h with
      | same g1 g2 g3 => exact .same (by simp only [noteM, stackM]; rw [g1]) g2 g3
      | later g1 g2 g3 g4 =>
        refine .later (fun j hj => ?_) g2 g3 g4
        have := g1 j hj
        simp only [noteM, stackM]
        rw [gset (by omega), gset (by omega)]
        split
        · subst j; omega
        · exact this
    · cases h with
      | same g1 g2 g3 => rw [g1] at hlk'; omega
      | later g1 g2 g3 g4 => omega
    · cases h with
      | same g1 g2 g3 => rw [g1] at hlk'; omega
      | later g1 g2 g3 g4 => have := g1 k' hkc; omega
  · have hal := ha.lo k hkc
    refine stepM_cases cs b x (fun t => Two1 cs _ t) hb.load hx hpos (fun _ => by omega) (fun k' hk' _ hlk' => ?_) (fun k' hk' _ hlk' hs' => ?_) (fun k' hk' _ hlk' hs' => ?_)
    all_goals (have : k' = k := by omega)
    all_goals subst this
    · cases h with
      | same g1 g2 g3 => rw [g1] at hlk'; omega
      | later g1 g2 g3 g4 => omega
    · cases h with
      | same g1 g2 g3 => exact .same (by simp only [noteM, stackM, sweepM]; rw [g1]) (by simp only [noteM, stackM, sweepM]; omega) g3
      | later g1 g2 g3 g4 => omega
    · cases h with
      | same g1 g2 g3 => omega
      | later g1 g2 g3 g4 => omega
  · have hal := ha.lo k hkc; have ha0 := ha.s0; have hb0 := hb.s0
    refine stepM_cases cs b x (fun t => Two1 cs _ t) hb.load hx hpos (fun _ => by omega) (fun k' hk' _ hlk' => ?_) (fun k' hk' _ hlk' hs' => ?_) (fun k' hk' _ hlk' hs' => ?_)
    all_goals (have : k' = k := by omega)
    all_goals subst this
    · have hbl := hb.lo k' hkc
      cases h with
      | same g1 g2 g3 => rw [g1] at hlk'; omega
      | later g1 g2 g3 g4 =>
        refine .later (fun j hj => ?_) g2 g3 (g4.trans (List.sublist_append_left _ _))
        have := g1 j hj
        simp only [noteM, stackM, overM]
        rw [gset (by omega)]
        split
        · subst j; omega
        · exact this
    · have hp := hpos _ (List.getElem_mem hkc)
      rw [← getDi hkc] at hp
      cases h with
      | same g1 g2 g3 =>
        refine .later (fun j hj => ?_) (by simp only [noteM, overM]; omega) (by simp only [noteM, stackM, sweepM]; omega) ?_
        · simp only [noteM, stackM, sweepM, overM]
          rw [gset (by rw [List.length_set]; omega), gset (by omega), gset (by omega), if_pos rfl]
          split
          · subst j; omega
          · rw [g1]; exact Int.le_refl _
        · simp only [noteM, stackM, sweepM, overM, g3]
          exact List.sublist_append_left _ _
      | later g1 g2 g3 g4 => omega
    · cases h with
      | same g1 g2 g3 => omega
      | later g1 g2 g3 g4 => exact .later g1 g2 g3 (g4.append_right _)
theorem playS_two1 (hpos : ∀ c ∈ cs, 1 ≤ c) (hin : ∀ x ∈ l, x.stk < cs.length) {sw : Int} (h0 : 0 ≤ sw) : ∀ i, i ≤ l.length → Two1 cs (playS cs sw l i) (playS cs (sw + 1) l i)
  | 0, _ => .same rfl rfl rfl
  | i + 1, h => by
    rw [playS_succ (by omega), playS_succ (by omega)]
    exact two1_step hpos (playS_inv hpos h0 hin i (by omega)) (playS_inv hpos (by omega) hin i (by omega)) (hin _ (List.getElem_mem _)) (playS_two1 hpos hin h0 i (by omega))
theorem over_sub (hpos : ∀ c ∈ cs, 1 ≤ c) (hin : ∀ x ∈ l, x.stk < cs.length) {sw : Int} (h0 : 0 ≤ sw) : List.Sublist (playF cs (sw + 1) l).over (playF cs sw l).over := by
  have := playS_two1 hpos hin h0 l.length (Nat.le_refl _)
  rw [playS_all, playS_all] at this
  cases this with
  | same _ _ h => rw [h]; exact List.Sublist.refl _
  | later _ _ _ h => exact h
end
end Go.Ab.S
namespace Go.Ab.S
open Go Go.Ab Go.Proofs
structure ItemR where
  id : Int
  stop : Int
  rd1 : Bool
  rd2 : Bool
def itemAV (x : ItemR) : AV := .agg [.raw (.int .i64 x.id), .raw (.int .i64 x.stop), .raw (.bool x.rd1), .raw (.bool x.rd2)]
@[simp] theorem pur_item (x : ItemR) : Pur (itemAV x) ↔ True := by simp [itemAV]
theorem pu_item (l : List ItemR) : ∀ x ∈ l.map itemAV, Pur x := by simp
def i0R : ItemR := ⟨0, 0, false, false⟩
theorem mt186 : mapTy Try.prog 186 = some (3, 45) := by kernel_rfl
theorem mt187 : mapTy Try.prog 187 = some (3, 89) := by kernel_rfl
theorem mz45 : (Try.prog.info? 45).bind (·.zero) = some (.agg #[.int .i64 0, .int .i64 0, .bool false, .bool false]) := by kernel_rfl
theorem mz89 : (Try.prog.info? 89).bind (·.zero) = some (.agg #[.int .i64 0, .int .i64 0, .int .i64 0, .int .i64 0]) := by kernel_rfl
theorem vz45 (C : Ctx) : Vl C (itemAV i0R) (.agg #[.int .i64 0, .int .i64 0, .bool false, .bool false]) := vl_raws_agg (vs := [.int .i64 0, .int .i64 0, .bool false, .bool false])
theorem vz89 (C : Ctx) : Vl C (seatAV s0R) (.agg #[.int .i64 0, .int .i64 0, .int .i64 0, .int .i64 0]) := vl_raws_agg (vs := [.int .i64 0, .int .i64 0, .int .i64 0, .int .i64 0])
/-- What is found under an ID, and under a stop. -/
def itmOf (l : List ItemR) (id : Int) : ItemR := (mget (mkM (·.id) l) id).getD i0R
def stOf (p : PlanR) (stop : Int) : Option SeatR := mget (mkM (·.stop) p.seats) stop
def feed1 (p : PlanR) (l : List ItemR) (id : Int) : FeedR := ⟨id, if (stOf p (itmOf l id).stop).isSome = true ∧ (itmOf l id).rd1 = true then ((stOf p (itmOf l id).stop).getD s0R).fst else -1⟩
def feed2 (p : PlanR) (l : List ItemR) (id : Int) : FeedR := ⟨id, if (itmOf l id).rd2 = true then ((stOf p (itmOf l id).stop).getD s0R).snd else -1⟩
def firstL (p : PlanR) (l : List ItemR) : List FeedR := (l.map (·.id)).map (feed1 p l)
def twoA (p : PlanR) (sw : Int) (l : List ItemR) : MS := playF p.caps sw (firstL p l)
def leftL (p : PlanR) (sw : Int) (l : List ItemR) : List Int := (twoA p sw l).rows.flatten
def secondL (p : PlanR) (sw : Int) (l : List ItemR) : List FeedR := (leftL p sw l).map (feed2 p l)
def twoB (p : PlanR) (sw : Int) (l : List ItemR) : MS := playF p.caps sw (secondL p sw l)
structure BothR where
  a : MS
  b : MS
  o : List Int
def bothAV (x : BothR) : AV := .agg [.sl 1 false (x.a.rows.map rowAV), rowAV x.a.swept, rowAV x.a.over, rowAV x.a.rej, .sl 3 false (x.a.ev.map evAV), .sl 1 false (x.b.rows.map rowAV), rowAV x.b.swept, rowAV x.b.over, rowAV x.b.rej, .sl 3 false (x.b.ev.map evAV), rowAV x.o]
@[simp] theorem pur_both (x : BothR) : Pur (bothAV x) ↔ True := by simp [bothAV]
def emptyB : BothR := ⟨emptyM, emptyM, []⟩
def twoF (p : PlanR) (sw : Int) (l : List ItemR) : BothR × Int :=
  if (checkF p).2 ≠ 0 then (emptyB, (checkF p).2) else if sw < 0 ∨ 1000 < sw then (emptyB, 2) else if 2000 < l.length then (emptyB, 5)
  else if diffF (l.map (·.id)) = true then (⟨twoA p sw l, twoB p sw l, (twoB p sw l).rows.flatten⟩, 0) else (emptyB, 292)
theorem rs_emptyB {H : Heap} : Rs H (fun _ => False) (.agg [.raw (.slice none 0 0), .raw (.slice none 0 0), .raw (.slice none 0 0), .raw (.slice none 0 0), .raw (.slice none 0 0), .raw (.slice none 0 0), .raw (.slice none 0 0), .raw (.slice none 0 0), .raw (.slice none 0 0), .raw (.slice none 0 0), .raw (.slice none 0 0)]) (bothAV emptyB) :=
  rs_agg ⟨.nil (by decide), .nil (by decide), .nil (by decide), .nil (by decide), .nil (by decide), .nil (by decide), .nil (by decide), .nil (by decide), .nil (by decide), .nil (by decide), .nil (by decide), trivial⟩
structure CheckOk (p : PlanR) : Prop where
  r : rightF p.caps = true
  m : p.seats.length ≤ 1000
  s : wrongS (p.seats.map stopOf) < 0
  b : fxI (badSeat p.caps.length p.seats) p.seats.length < 0
  l1 : p.first.length = p.caps.length
  l2 : p.second.length = p.caps.length
  ld : fxI (badLoad p) p.caps.length < 0
  fl : fxI (badFull p) p.caps.length < 0
theorem check_iff (p : PlanR) : (checkF p).2 = 0 ↔ CheckOk p := by
  constructor
  · intro h
    unfold checkF at h
    split at h
    · simp at h
    split at h
    · simp at h
    split at h
    · simp at h
    split at h
    · simp at h
    split at h
    · simp at h
    split at h
    · simp at h
    split at h
    · simp at h
    exact ⟨by simp_all, by omega, by omega, by omega, by omega, by omega, by omega, by omega⟩
  · rintro ⟨h1, h2, h3, h4, h5, h6, h7, h8⟩
    rw [checkF, if_neg (by simp [h1]), if_neg (by omega), if_neg (by omega), if_neg (by omega), if_neg (by omega), if_neg (by omega), if_neg (by omega)]
theorem check_zero {p : PlanR} (h : CheckOk p) : checkF p = (0, 0) := by
  obtain ⟨h1, h2, h3, h4, h5, h6, h7, h8⟩ := h
  rw [checkF, if_neg (by simp [h1]), if_neg (by omega), if_neg (by omega), if_neg (by omega), if_neg (by omega), if_neg (by omega), if_neg (by omega)]
theorem rightF_pos {cs : List Int} (h : rightF cs = true) : (∀ c ∈ cs, 1 ≤ c) ∧ (∀ c ∈ cs, c ≤ 100000) ∧ 0 < cs.length := by
  simp only [rightF, Bool.and_eq_true, decide_eq_true_eq, Bool.not_eq_true', List.any_eq_false] at h
  refine ⟨fun c hc => ?_, fun c hc => ?_, h.1.1⟩
  · have := h.2 c hc; simp [badC] at this; omega
  · have := h.2 c hc; simp [badC] at this; omega
theorem CheckOk.seat {p : PlanR} (h : CheckOk p) : ∀ x ∈ p.seats, 0 ≤ x.fst ∧ x.fst < p.caps.length ∧ 0 ≤ x.snd ∧ x.snd < p.caps.length := by
  intro x hx
  obtain ⟨i, hi, rfl⟩ := List.getElem_of_mem hx
  have h1 := fxI_neg h.b i hi
  rw [badSeat, getDg hi] at h1
  simp only [Bool.or_eq_false_iff, decide_eq_false_iff_not] at h1
  omega
theorem stOf_mem {p : PlanR} {k : Int} {s : SeatR} (h : stOf p k = some s) : s ∈ p.seats ∧ s.stop = k := mkM_mem h
theorem feed1_in {p : PlanR} (h : CheckOk p) (l : List ItemR) (id : Int) : -1 ≤ (feed1 p l id).stk ∧ (feed1 p l id).stk < p.caps.length := by
  simp only [feed1]
  split
  · rename_i hs
    obtain ⟨s, hs⟩ := Option.isSome_iff_exists.1 hs.1
    rw [hs, Option.getD_some]
    have := h.seat s (stOf_mem hs).1
    omega
  · omega
theorem feed2_in {p : PlanR} (h : CheckOk p) (l : List ItemR) (id : Int) : -1 ≤ (feed2 p l id).stk ∧ (feed2 p l id).stk < p.caps.length := by
  simp only [feed2]
  have h0 := (rightF_pos h.r).2.2
  split
  · cases hs : stOf p (itmOf l id).stop with
    | none => simp [s0R]; omega
    | some s =>
      rw [Option.getD_some]
      have := h.seat s (stOf_mem hs).1
      omega
  · omega
theorem firstL_in {p : PlanR} (h : CheckOk p) (l : List ItemR) : ∀ x ∈ firstL p l, -1 ≤ x.stk ∧ x.stk < p.caps.length := by
  intro x hx
  obtain ⟨id, _, rfl⟩ := List.mem_map.1 hx
  exact feed1_in h l id
theorem secondL_in {p : PlanR} (h : CheckOk p) (sw : Int) (l : List ItemR) : ∀ x ∈ secondL p sw l, -1 ≤ x.stk ∧ x.stk < p.caps.length := by
  intro x hx
  obtain ⟨id, _, rfl⟩ := List.mem_map.1 hx
  exact feed2_in h l id
theorem play_flat_le {cs : List Int} {sw : Int} {l : List FeedR} (h0 : 0 ≤ sw) (hr : rightF cs = true) (hin : ∀ x ∈ l, -1 ≤ x.stk ∧ x.stk < cs.length) : (playF cs sw l).rows.flatten.length ≤ l.length ∧ (playF cs sw l).rows.length = cs.length := by
  have h1 := playF_count h0 (rightF_pos hr).1 (fun x hx => (hin x hx).2)
  have h2 := playS_inv (rightF_pos hr).1 h0 (fun x hx => (hin x hx).2) l.length (Nat.le_refl _)
  rw [playS_all] at h2
  simp only [allM, List.length_append] at h1
  exact ⟨by omega, h2.rows⟩

theorem pu_feed1 (l : List FeedR) (y : FeedR) : ∀ x ∈ l.map feedAV ++ [feedAV y], Pur x := by
  intro x hx
  rcases List.mem_append.1 hx with hx | hx
  · exact pu_feed _ x hx
  · simp at hx; subst hx; simp
theorem firstL_len (p : PlanR) (l : List ItemR) : (firstL p l).length = l.length := by simp [firstL]
theorem firstL_succ {p : PlanR} {l : List ItemR} {i : Nat} (h : i < (l.map (·.id)).length) {v : Int} (hv : (feed1 p l (l.map (·.id))[i]).stk = v) : (firstL p l).take (i + 1) = (firstL p l).take i ++ [⟨(l.map (·.id))[i], v⟩] := by
  subst hv
  have h' : i < (firstL p l).length := by rw [firstL_len]; simpa using h
  rw [List.take_succ_eq_append_getElem h']
  congr 2
  simp [firstL]; rfl
theorem secondL_succ {p : PlanR} {sw : Int} {l : List ItemR} {i : Nat} (h : i < (leftL p sw l).length) {v : Int} (hv : (feed2 p l (leftL p sw l)[i]).stk = v) : (secondL p sw l).take (i + 1) = (secondL p sw l).take i ++ [⟨(leftL p sw l)[i], v⟩] := by
  subst hv
  have h' : i < (secondL p sw l).length := by simpa [secondL] using h
  rw [List.take_succ_eq_append_getElem h']
  congr 2
  simp [secondL]; rfl

noncomputable def r26_0 : Array Oper := opsAt Try.f26 [0]
theorem r26_0_ok : dstOk 163 r26_0.toList = true ∧ r26_0.toList.all (fun o => noDefer o.op) = true := by decide +kernel
noncomputable def r26_1 : Array Oper := opsAt Try.f26 [1, 0, 0]
theorem r26_1_ok : dstOk 163 r26_1.toList = true ∧ r26_1.toList.all (fun o => noDefer o.op) = true := by decide +kernel
noncomputable def r26_2 : Array Oper := opsAt Try.f26 [1, 0, 1, 0]
theorem r26_2_ok : dstOk 163 r26_2.toList = true ∧ r26_2.toList.all (fun o => noDefer o.op) = true := by decide +kernel
noncomputable def r26_3 : Array Oper := opsAt Try.f26 [1, 0, 1, 1, 0, 0]
theorem r26_3_ok : dstOk 163 r26_3.toList = true ∧ r26_3.toList.all (fun o => noDefer o.op) = true := by decide +kernel
noncomputable def r26_4 : Array Oper := opsAt Try.f26 [1, 1, 0, 0]
theorem r26_4_ok : dstOk 163 r26_4.toList = true ∧ r26_4.toList.all (fun o => noDefer o.op) = true := by decide +kernel
noncomputable def r26_5 : Array Oper := opsAt Try.f26 [1, 1, 0, 1, 0, 0]
theorem r26_5_ok : dstOk 163 r26_5.toList = true ∧ r26_5.toList.all (fun o => noDefer o.op) = true := by decide +kernel
noncomputable def r26_6 : Array Oper := opsAt Try.f26 [1, 1, 1, 0, 0]
theorem r26_6_ok : dstOk 163 r26_6.toList = true ∧ r26_6.toList.all (fun o => noDefer o.op) = true := by decide +kernel
noncomputable def r26_7 : Array Oper := opsAt Try.f26 [1, 1, 1, 0, 1, 0, 0]
theorem r26_7_ok : dstOk 163 r26_7.toList = true ∧ r26_7.toList.all (fun o => noDefer o.op) = true := by decide +kernel
noncomputable def r26_8 : Array Oper := opsAt Try.f26 [1, 1, 1, 1, 0]
theorem r26_8_ok : dstOk 163 r26_8.toList = true ∧ r26_8.toList.all (fun o => noDefer o.op) = true := by decide +kernel
noncomputable def r26_9 : Array Oper := opsAt Try.f26 [1, 1, 1, 1, 1, 0, 0]
theorem r26_9_ok : dstOk 163 r26_9.toList = true ∧ r26_9.toList.all (fun o => noDefer o.op) = true := by decide +kernel
noncomputable def r26_10 : Array Oper := opsAt Try.f26 [1, 1, 1, 1, 1, 0, 1, 0, 0, 0]
theorem r26_10_ok : dstOk 163 r26_10.toList = true ∧ r26_10.toList.all (fun o => noDefer o.op) = true := by decide +kernel
noncomputable def r26_11 : Array Oper := opsAt Try.f26 [1, 1, 1, 1, 1, 0, 1, 0, 0, 1, 1, 0, 0, 0]
theorem r26_11_ok : dstOk 163 r26_11.toList = true ∧ r26_11.toList.all (fun o => noDefer o.op) = true := by decide +kernel
noncomputable def r26_12 : Array Oper := opsAt Try.f26 [1, 1, 1, 1, 1, 0, 1, 0, 0, 1, 1, 0, 0, 1]
theorem r26_12_ok : dstOk 163 r26_12.toList = true ∧ r26_12.toList.all (fun o => noDefer o.op) = true := by decide +kernel
noncomputable def r26_13 : Array Oper := opsAt Try.f26 [1, 1, 1, 1, 1, 0, 1, 0, 0, 1, 1, 1]
theorem r26_13_ok : dstOk 163 r26_13.toList = true ∧ r26_13.toList.all (fun o => noDefer o.op) = true := by decide +kernel
noncomputable def b26_0 : Code := (.seq (.region 10 r26_10 false) (.seq (.cond (.tmp 54) .skip (.exit 0)) (.seq (.block 1 (.seq (.region 11 r26_11 false) (.region 12 r26_12 true))) (.region 13 r26_13 false))))
noncomputable def r26_14 : Array Oper := opsAt Try.f26 [1, 1, 1, 1, 1, 1, 0, 0]
theorem r26_14_ok : dstOk 163 r26_14.toList = true ∧ r26_14.toList.all (fun o => noDefer o.op) = true := by decide +kernel
noncomputable def r26_15 : Array Oper := opsAt Try.f26 [1, 1, 1, 1, 1, 1, 0, 1, 0, 0]
theorem r26_15_ok : dstOk 163 r26_15.toList = true ∧ r26_15.toList.all (fun o => noDefer o.op) = true := by decide +kernel
noncomputable def r26_16 : Array Oper := opsAt Try.f26 [1, 1, 1, 1, 1, 1, 1, 0]
theorem r26_16_ok : dstOk 163 r26_16.toList = true ∧ r26_16.toList.all (fun o => noDefer o.op) = true := by decide +kernel
noncomputable def r26_17 : Array Oper := opsAt Try.f26 [1, 1, 1, 1, 1, 1, 1, 1, 0, 0]
theorem r26_17_ok : dstOk 163 r26_17.toList = true ∧ r26_17.toList.all (fun o => noDefer o.op) = true := by decide +kernel
noncomputable def r26_18 : Array Oper := opsAt Try.f26 [1, 1, 1, 1, 1, 1, 1, 1, 0, 1, 0, 0, 0]
theorem r26_18_ok : dstOk 163 r26_18.toList = true ∧ r26_18.toList.all (fun o => noDefer o.op) = true := by decide +kernel
noncomputable def r26_19 : Array Oper := opsAt Try.f26 [1, 1, 1, 1, 1, 1, 1, 1, 0, 1, 0, 0, 1, 1, 0, 0, 0]
theorem r26_19_ok : dstOk 163 r26_19.toList = true ∧ r26_19.toList.all (fun o => noDefer o.op) = true := by decide +kernel
noncomputable def r26_20 : Array Oper := opsAt Try.f26 [1, 1, 1, 1, 1, 1, 1, 1, 0, 1, 0, 0, 1, 1, 0, 0, 1]
theorem r26_20_ok : dstOk 163 r26_20.toList = true ∧ r26_20.toList.all (fun o => noDefer o.op) = true := by decide +kernel
noncomputable def r26_21 : Array Oper := opsAt Try.f26 [1, 1, 1, 1, 1, 1, 1, 1, 0, 1, 0, 0, 1, 1, 1]
theorem r26_21_ok : dstOk 163 r26_21.toList = true ∧ r26_21.toList.all (fun o => noDefer o.op) = true := by decide +kernel
noncomputable def b26_1 : Code := (.seq (.region 18 r26_18 false) (.seq (.cond (.tmp 77) .skip (.exit 2)) (.seq (.block 3 (.seq (.region 19 r26_19 false) (.region 20 r26_20 false))) (.region 21 r26_21 false))))
noncomputable def r26_22 : Array Oper := opsAt Try.f26 [1, 1, 1, 1, 1, 1, 1, 1, 1, 0]
theorem r26_22_ok : dstOk 163 r26_22.toList = true ∧ r26_22.toList.all (fun o => noDefer o.op) = true := by decide +kernel
noncomputable def r26_23 : Array Oper := opsAt Try.f26 [1, 1, 1, 1, 1, 1, 1, 1, 1, 1, 0, 0]
theorem r26_23_ok : dstOk 163 r26_23.toList = true ∧ r26_23.toList.all (fun o => noDefer o.op) = true := by decide +kernel
noncomputable def r26_24 : Array Oper := opsAt Try.f26 [1, 1, 1, 1, 1, 1, 1, 1, 1, 1, 0, 1, 0, 0, 0]
theorem r26_24_ok : dstOk 163 r26_24.toList = true ∧ r26_24.toList.all (fun o => noDefer o.op) = true := by decide +kernel
noncomputable def r26_25 : Array Oper := opsAt Try.f26 [1, 1, 1, 1, 1, 1, 1, 1, 1, 1, 0, 1, 0, 0, 1, 1, 0, 0, 0]
theorem r26_25_ok : dstOk 163 r26_25.toList = true ∧ r26_25.toList.all (fun o => noDefer o.op) = true := by decide +kernel
noncomputable def r26_26 : Array Oper := opsAt Try.f26 [1, 1, 1, 1, 1, 1, 1, 1, 1, 1, 0, 1, 0, 0, 1, 1, 0, 0, 1, 0]
theorem r26_26_ok : dstOk 163 r26_26.toList = true ∧ r26_26.toList.all (fun o => noDefer o.op) = true := by decide +kernel
noncomputable def r26_27 : Array Oper := opsAt Try.f26 [1, 1, 1, 1, 1, 1, 1, 1, 1, 1, 0, 1, 0, 0, 1, 1, 0, 0, 1, 1, 0, 0]
theorem r26_27_ok : dstOk 163 r26_27.toList = true ∧ r26_27.toList.all (fun o => noDefer o.op) = true := by decide +kernel
noncomputable def r26_28 : Array Oper := opsAt Try.f26 [1, 1, 1, 1, 1, 1, 1, 1, 1, 1, 0, 1, 0, 0, 1, 1, 0, 0, 1, 1, 0, 1, 0]
theorem r26_28_ok : dstOk 163 r26_28.toList = true ∧ r26_28.toList.all (fun o => noDefer o.op) = true := by decide +kernel
noncomputable def r26_29 : Array Oper := opsAt Try.f26 [1, 1, 1, 1, 1, 1, 1, 1, 1, 1, 0, 1, 0, 0, 1, 1, 0, 0, 1, 1, 1]
theorem r26_29_ok : dstOk 163 r26_29.toList = true ∧ r26_29.toList.all (fun o => noDefer o.op) = true := by decide +kernel
noncomputable def r26_30 : Array Oper := opsAt Try.f26 [1, 1, 1, 1, 1, 1, 1, 1, 1, 1, 0, 1, 0, 0, 1, 1, 1]
theorem r26_30_ok : dstOk 163 r26_30.toList = true ∧ r26_30.toList.all (fun o => noDefer o.op) = true := by decide +kernel
noncomputable def b26_2 : Code := (.seq (.region 24 r26_24 false) (.seq (.cond (.tmp 88) .skip (.exit 4)) (.seq (.block 5 (.seq (.region 25 r26_25 false) (.seq (.region 26 r26_26 false) (.seq (.seq (.region 27 r26_27 false) (.cond (.tmp 108) (.region 28 r26_28 false) .skip)) (.region 29 r26_29 false))))) (.region 30 r26_30 false))))
noncomputable def r26_31 : Array Oper := opsAt Try.f26 [1, 1, 1, 1, 1, 1, 1, 1, 1, 1, 1, 0]
theorem r26_31_ok : dstOk 163 r26_31.toList = true ∧ r26_31.toList.all (fun o => noDefer o.op) = true := by decide +kernel
noncomputable def r26_32 : Array Oper := opsAt Try.f26 [1, 1, 1, 1, 1, 1, 1, 1, 1, 1, 1, 1, 0, 0]
theorem r26_32_ok : dstOk 163 r26_32.toList = true ∧ r26_32.toList.all (fun o => noDefer o.op) = true := by decide +kernel
noncomputable def r26_33 : Array Oper := opsAt Try.f26 [1, 1, 1, 1, 1, 1, 1, 1, 1, 1, 1, 1, 0, 1, 0, 0, 0]
theorem r26_33_ok : dstOk 163 r26_33.toList = true ∧ r26_33.toList.all (fun o => noDefer o.op) = true := by decide +kernel
noncomputable def r26_34 : Array Oper := opsAt Try.f26 [1, 1, 1, 1, 1, 1, 1, 1, 1, 1, 1, 1, 0, 1, 0, 0, 1, 1, 0, 0, 0]
theorem r26_34_ok : dstOk 163 r26_34.toList = true ∧ r26_34.toList.all (fun o => noDefer o.op) = true := by decide +kernel
noncomputable def r26_35 : Array Oper := opsAt Try.f26 [1, 1, 1, 1, 1, 1, 1, 1, 1, 1, 1, 1, 0, 1, 0, 0, 1, 1, 0, 0, 1, 0]
theorem r26_35_ok : dstOk 163 r26_35.toList = true ∧ r26_35.toList.all (fun o => noDefer o.op) = true := by decide +kernel
noncomputable def r26_36 : Array Oper := opsAt Try.f26 [1, 1, 1, 1, 1, 1, 1, 1, 1, 1, 1, 1, 0, 1, 0, 0, 1, 1, 0, 0, 1, 1, 0, 0]
theorem r26_36_ok : dstOk 163 r26_36.toList = true ∧ r26_36.toList.all (fun o => noDefer o.op) = true := by decide +kernel
noncomputable def r26_37 : Array Oper := opsAt Try.f26 [1, 1, 1, 1, 1, 1, 1, 1, 1, 1, 1, 1, 0, 1, 0, 0, 1, 1, 0, 0, 1, 1, 0, 1, 0]
theorem r26_37_ok : dstOk 163 r26_37.toList = true ∧ r26_37.toList.all (fun o => noDefer o.op) = true := by decide +kernel
noncomputable def r26_38 : Array Oper := opsAt Try.f26 [1, 1, 1, 1, 1, 1, 1, 1, 1, 1, 1, 1, 0, 1, 0, 0, 1, 1, 0, 0, 1, 1, 1]
theorem r26_38_ok : dstOk 163 r26_38.toList = true ∧ r26_38.toList.all (fun o => noDefer o.op) = true := by decide +kernel
noncomputable def r26_39 : Array Oper := opsAt Try.f26 [1, 1, 1, 1, 1, 1, 1, 1, 1, 1, 1, 1, 0, 1, 0, 0, 1, 1, 1]
theorem r26_39_ok : dstOk 163 r26_39.toList = true ∧ r26_39.toList.all (fun o => noDefer o.op) = true := by decide +kernel
noncomputable def b26_3 : Code := (.seq (.region 33 r26_33 false) (.seq (.cond (.tmp 129) .skip (.exit 6)) (.seq (.block 7 (.seq (.region 34 r26_34 false) (.seq (.region 35 r26_35 false) (.seq (.seq (.region 36 r26_36 false) (.cond (.tmp 142) (.region 37 r26_37 false) .skip)) (.region 38 r26_38 false))))) (.region 39 r26_39 false))))
noncomputable def r26_40 : Array Oper := opsAt Try.f26 [1, 1, 1, 1, 1, 1, 1, 1, 1, 1, 1, 1, 1, 0]
theorem r26_40_ok : dstOk 163 r26_40.toList = true ∧ r26_40.toList.all (fun o => noDefer o.op) = true := by decide +kernel
noncomputable def r26_41 : Array Oper := opsAt Try.f26 [1, 1, 1, 1, 1, 1, 1, 1, 1, 1, 1, 1, 1, 1, 0]
theorem r26_41_ok : dstOk 163 r26_41.toList = true ∧ r26_41.toList.all (fun o => noDefer o.op) = true := by decide +kernel
noncomputable def r26_42 : Array Oper := opsAt Try.f26 [1, 1, 1, 1, 1, 1, 1, 1, 1, 1, 1, 1, 1, 1, 1, 0]
theorem r26_42_ok : dstOk 163 r26_42.toList = true ∧ r26_42.toList.all (fun o => noDefer o.op) = true := by decide +kernel
noncomputable def c26 : Code := (.seq (.region 0 r26_0 false) (.seq (.seq (.region 1 r26_1 false) (.seq (.region 2 r26_2 false) (.cond (.tmp 33) (.seq (.region 3 r26_3 false) .ret) .skip))) (.seq (.seq (.region 4 r26_4 false) (.cond (.tmp 41) (.seq (.region 5 r26_5 false) .ret) .skip)) (.seq (.seq (.region 6 r26_6 false) (.cond (.tmp 45) (.seq (.region 7 r26_7 false) .ret) .skip)) (.seq (.region 8 r26_8 true) (.seq (.seq (.region 9 r26_9 false) (.block 0 (.loop b26_0))) (.seq (.seq (.region 14 r26_14 false) (.cond (.tmp 70) (.seq (.region 15 r26_15 false) .ret) .skip)) (.seq (.region 16 r26_16 false) (.seq (.seq (.region 17 r26_17 false) (.block 2 (.loop b26_1))) (.seq (.region 22 r26_22 false) (.seq (.seq (.region 23 r26_23 false) (.block 4 (.loop b26_2))) (.seq (.region 31 r26_31 false) (.seq (.seq (.region 32 r26_32 false) (.block 6 (.loop b26_3))) (.seq (.region 40 r26_40 false) (.seq (.region 41 r26_41 false) (.seq (.region 42 r26_42 false) .ret))))))))))))))))
theorem body26 : Try.f26.body = some c26 := by kernel_rfl
theorem two_ok (b : B4) (p : PlanR) (g1 : p.caps.length ≤ 100000) (g2 : p.seats.length ≤ 100000) (g3 : p.first.length ≤ 100000) (g4 : p.second.length ≤ 100000) (sw : Int) (b2 : Fl) (l : List ItemR) (hl : l.length ≤ 4611686018427387904) : PureCall Try.prog GL 26 [planAV b p, .raw (.int .i64 sw), .sl 4 b2 (l.map itemAV)] (.tup [bothAV (twoF p sw l).1, .raw (.int .i64 ((twoF p sw l).2))]) := by
  refine pure_of_body Try.func26 body26 (Nat.le_of_ble_eq_true rfl) (by simp) (by simp) ?_
  refine w_keep [(0, planAV b p), (1, .raw (.int .i64 sw)), (2, .sl 4 b2 (l.map itemAV))] ⟨rfl, rfl, rfl, trivial⟩ ?_
  unfold c26
  refine awp_seq ?_
  refine w_reg (l := r26_0.toList) rfl r26_0_ok ?_
  refine a_op rfl (o_box (N := 0) rfl (by rfl) rfl rfl) ?_
  refine a_op rfl (o_al (N := 1) tz62 rfl rfl rfl) ?_
  refine a_op rfl (o_as rfl) ?_
  refine a_nil ?_
  refine tq_n ?_
  refine awp_seq ?_
  refine awp_seq ?_
  refine w_reg (l := r26_1.toList) rfl r26_1_ok ?_
  refine a_op rfl ((by first | exact o_ldg tg51 tn51 rfl rfl | exact o_ldpg tg51 tn51 rfl rfl rfl rfl)) ?_
  refine a_pure rfl rfl rfl cb25 (check_ok b p g1 g2 g3 g4) ?_
  refine a_op rfl (o_mv rfl) ?_
  refine a_op rfl (o_ex rfl rfl) ?_
  refine a_op rfl (o_ex rfl rfl) ?_
  refine a_op rfl (o_as rfl) ?_
  refine a_op rfl (o_as rfl) ?_
  refine a_nil ?_
  refine tq_n ?_
  refine awp_seq ?_
  refine w_reg (l := r26_2.toList) rfl r26_2_ok ?_
  refine a_op rfl (o_mv rfl) ?_
  refine a_if rfl (o_ne rfl rfl) (fun h1 => ?_) (fun h2 => ?_)
  · refine a_nil ?_
    refine tq_n ?_
    refine w_true rfl ?_
    refine awp_seq ?_
    refine w_reg (l := r26_3.toList) rfl r26_3_ok ?_
    refine a_op rfl (o_bd tz62 rfl tp62 rfl rfl) ?_
    refine a_op rfl (o_mv rfl) ?_
    refine a_op0 rfl (o_st (N := 10) tn62 rfl rfl rfl rfl rfl) ?_
    refine a_op rfl (o_as rfl) ?_
    refine a_nil ?_
    refine tq_n ?_
    refine awp_ret ?_
    refine tq_r ?_
    refine r_tup (xs := []) rfl ⟨c_ag tg62 tn62 rfl rfl, rfl, trivial⟩ ?_
    have hr : twoF p sw l = (emptyB, (checkF p).2) := by rw [twoF, if_pos (by assumption)]
    rw [hr]
    exact rs_tup ⟨rs_emptyB, .raw _, trivial⟩
  refine a_nil ?_
  refine tq_n ?_
  refine w_false rfl ?_
  refine awp_skip ?_
  refine tq_n ?_
  refine awp_seq ?_
  refine awp_seq ?_
  refine w_reg (l := r26_4.toList) rfl r26_4_ok ?_
  refine a_op rfl (o_mv rfl) ?_
  refine a_if rfl (o_lt rfl rfl) (fun h3 => ?_) (fun h4 => ?_)
  · refine a_op rfl (o_mv rfl) ?_
    refine a_off rfl ?_
    refine a_off rfl ?_
    refine a_op rfl (o_pkt rfl rfl) ?_
    refine a_nil ?_
    refine tq_n ?_
    refine w_true rfl ?_
    refine awp_seq ?_
    refine w_reg (l := r26_5.toList) rfl r26_5_ok ?_
    refine a_op rfl (o_bd tz62 rfl tp62 rfl rfl) ?_
    refine a_op0 rfl (o_st (N := 10) tn62 rfl rfl rfl rfl rfl) ?_
    refine a_op rfl (o_as rfl) ?_
    refine a_nil ?_
    refine tq_n ?_
    refine awp_ret ?_
    refine tq_r ?_
    refine r_tup (xs := []) rfl ⟨c_ag tg62 tn62 rfl rfl, rfl, trivial⟩ ?_
    have hr : twoF p sw l = (emptyB, 2) := by rw [twoF, if_neg (by assumption), if_pos (by omega)]
    rw [hr]
    exact rs_tup ⟨rs_emptyB, .raw _, trivial⟩
  refine a_op rfl (o_mv rfl) ?_
  refine a_op rfl (o_mv rfl) ?_
  refine a_if rfl (o_gt rfl rfl) (fun h5 => ?_) (fun h6 => ?_)
  · refine a_op rfl (o_pkf rfl rfl) ?_
    refine a_nil ?_
    refine tq_n ?_
    refine w_true rfl ?_
    refine awp_seq ?_
    refine w_reg (l := r26_5.toList) rfl r26_5_ok ?_
    refine a_op rfl (o_bd tz62 rfl tp62 rfl rfl) ?_
    refine a_op0 rfl (o_st (N := 10) tn62 rfl rfl rfl rfl rfl) ?_
    refine a_op rfl (o_as rfl) ?_
    refine a_nil ?_
    refine tq_n ?_
    refine awp_ret ?_
    refine tq_r ?_
    refine r_tup (xs := []) rfl ⟨c_ag tg62 tn62 rfl rfl, rfl, trivial⟩ ?_
    have hr : twoF p sw l = (emptyB, 2) := by rw [twoF, if_neg (by assumption), if_pos (by omega)]
    rw [hr]
    exact rs_tup ⟨rs_emptyB, .raw _, trivial⟩
  refine a_op rfl (o_pkf rfl rfl) ?_
  refine a_nil ?_
  refine tq_n ?_
  refine w_false rfl ?_
  refine awp_skip ?_
  refine tq_n ?_
  refine awp_seq ?_
  refine awp_seq ?_
  refine w_reg (l := r26_6.toList) rfl r26_6_ok ?_
  refine a_op rfl (o_mv rfl) ?_
  refine a_op rfl (o_len rfl rfl (by first | exact List.length_map .. | rfl) tl43) ?_
  refine a_if rfl (o_gt rfl rfl) (fun h7 => ?_) (fun h8 => ?_)
  · refine a_nil ?_
    refine tq_n ?_
    refine w_true rfl ?_
    refine awp_seq ?_
    refine w_reg (l := r26_7.toList) rfl r26_7_ok ?_
    refine a_op rfl (o_bd tz62 rfl tp62 rfl rfl) ?_
    refine a_op0 rfl (o_st (N := 10) tn62 rfl rfl rfl rfl rfl) ?_
    refine a_op rfl (o_as rfl) ?_
    refine a_nil ?_
    refine tq_n ?_
    refine awp_ret ?_
    refine tq_r ?_
    refine r_tup (xs := []) rfl ⟨c_ag tg62 tn62 rfl rfl, rfl, trivial⟩ ?_
    have hr : twoF p sw l = (emptyB, 5) := by rw [twoF, if_neg (by assumption), if_neg (by omega), if_pos (by omega)]
    rw [hr]
    exact rs_tup ⟨rs_emptyB, .raw _, trivial⟩
  refine a_nil ?_
  refine tq_n ?_
  refine w_false rfl ?_
  refine awp_skip ?_
  refine tq_n ?_
  refine awp_seq ?_
  have hck : CheckOk p := (check_iff p).1 (by simpa using h2)
  have h0 : (0 : Int) ≤ (l.length : Nat) := by omega
  have hb8 : ((8 : Nat) : Int) * (l.length : Nat) ≤ 281474976710656 := by omega
  have h63 : ((l.length : Nat) : Int) ≤ 9223372036854775807 := by omega
  refine w_phd rfl ?_
  refine w_ph 1 (by decide) rfl ?_
  refine awp_draw ⟨[[], [], [1], [1, 2], [0], [0, 1, 2, 3, 4]], [[], [2], [48], [49], [47], [50]], [[2], [], [], [3], [], []], [some 2, none, none, some 3, none, none]⟩ mo r26_8_ok (by decide +kernel) (l := r26_8.toList) rfl ?_
  refine d_w rfl rfl rfl (fun _ => o_mmD rfl) rfl rfl rfl ?_
  refine d_op rfl rfl rfl (fun _ => o_mv rfl) ?_
  refine d_op rfl rfl rfl (fun _ => o_len rfl rfl (by first | exact List.length_map .. | rfl) tl43) ?_
  refine d_w rfl rfl rfl (fun _ => o_msD tE34 rfl rfl h0 (Int.le_refl _) hb8 h63 rfl) rfl rfl rfl ?_
  refine d_op rfl rfl rfl (fun _ => o_as rfl) ?_
  refine d_op rfl rfl rfl (fun _ => o_as rfl) ?_
  refine d_nil ?_
  refine tq_n ?_
  refine awp_seq ?_
  refine awp_seq ?_
  refine w_heq (H1 := [.var (planC b p), .var [.raw (.slice none 0 0), .raw (.slice none 0 0), .raw (.slice none 0 0), .raw (.slice none 0 0), .raw (.slice none 0 0), .raw (.slice none 0 0), .raw (.slice none 0 0), .raw (.slice none 0 0), .raw (.slice none 0 0), .raw (.slice none 0 0), .raw (.slice none 0 0)], .mapo (mpG itemAV (mkM (·.id) (l.take 0))), .vec 1 1 ((fillR (l.map (·.id)) 0).map intAV)]) (by simp [mkM, upTo, mpG, mpE, fillR, intAV, planAV, AV.cells]) ?_
  refine w_reg (l := r26_9.toList) rfl r26_9_ok ?_
  refine a_op rfl (o_mv rfl) ?_
  refine a_op rfl (o_len rfl rfl (by first | exact List.length_map .. | rfl) tl43) ?_
  refine a_op rfl (o_mv rfl) ?_
  refine a_nil ?_
  refine tq_n ?_
  refine awp_block ?_
  refine w_loop (fun i : Nat => i ≤ l.length) (fun i => [(1, .raw (.int .i64 sw)), (3, .ptr 0 0), (6, .ptr 1 0), (10, .mp 2), (11, .slo 3 1 0 l.length), (51, .sl 4 b2 (l.map itemAV)), (52, .raw (.int .i64 ((l.length : Nat) : Int))), (53, .raw (.int .i64 ((i : Nat) : Int)))]) (fun i => [.var (planC b p), .var [.raw (.slice none 0 0), .raw (.slice none 0 0), .raw (.slice none 0 0), .raw (.slice none 0 0), .raw (.slice none 0 0), .raw (.slice none 0 0), .raw (.slice none 0 0), .raw (.slice none 0 0), .raw (.slice none 0 0), .raw (.slice none 0 0), .raw (.slice none 0 0)], .mapo (mpG itemAV (mkM (·.id) (l.take i))), .vec 1 1 ((fillR (l.map (·.id)) i).map intAV)]) (fun i => l.length - i) (0) (by simp) ⟨(by first | exact sub_int rfl (by omega) | rfl), (by first | exact sub_int rfl (by omega) | rfl), (by first | exact sub_int rfl (by omega) | rfl), (by first | exact sub_int rfl (by omega) | rfl), (by first | exact sub_int rfl (by omega) | rfl), (by first | exact sub_int rfl (by omega) | rfl), (by first | exact sub_int rfl (by omega) | rfl), (by first | exact sub_int rfl (by omega) | rfl), trivial⟩ rfl ?_
  intro i hp
  unfold b26_0
  refine awp_seq ?_
  refine w_reg (l := r26_10.toList) rfl r26_10_ok ?_
  refine a_if rfl (o_lt rfl rfl) (fun h9 => ?_) (fun h10 => ?_)
  · refine a_nil ?_
    refine tq_n ?_
    refine awp_seq ?_
    refine w_true rfl ?_
    refine awp_skip ?_
    refine tq_n ?_
    refine awp_seq ?_
    refine awp_block ?_
    refine awp_seq ?_
    have hi : i < l.length := by omega
    have hii : i < (l.map (·.id)).length := by simpa using hi
    have hfl : i < (fillR (l.map (·.id)) i).length := by rw [fillR_len _ _ (by omega)]; omega
    have hid : l[i].id = (l.map (·.id))[i] := by simp
    refine w_reg (l := r26_11.toList) rfl r26_11_ok ?_
    refine a_op rfl (o_mv rfl) ?_
    refine a_op rfl (o_ix te43 tn45 rfl rfl rfl (ixm _ _ _ hi)) ?_
    refine a_op rfl ((by first | exact o_ldg tg45 tn45 rfl rfl | exact o_ldpg tg45 tn45 rfl rfl rfl rfl)) ?_
    refine a_op rfl (o_al (N := 4) tz45 rfl rfl rfl) ?_
    refine a_op rfl (o_as rfl) ?_
    refine a_op0 rfl (o_st (N := 3) tn45 rfl rfl rfl rfl rfl) ?_
    refine a_nil ?_
    refine tq_n ?_
    refine awp_draw ⟨[[], [], [1], [], [], [], [], [6], [0, 1, 2, 5], [0, 1, 2, 3, 4, 5, 6, 7, 8], [0, 1, 2, 3, 4, 5, 6, 7, 8, 9]], [[10], [13], [59], [11], [12], [13], [13], [64], [58, 60, 63], [61, 62], [65, 66]], [[], [], [4], [], [], [4], [], [4], [2], [3], [3]], [none, none, none, none, none, none, none, none, some 2, none, some 3]⟩ mo r26_12_ok (by decide +kernel) (l := r26_12.toList) rfl ?_
    refine d_op rfl rfl rfl (fun _ => o_mv rfl) ?_
    refine d_op rfl rfl rfl (fun _ => (by first | exact o_fa tf45_0 rfl rfl | exact o_fap tf45_0 rfl rfl)) ?_
    refine d_op rfl rfl rfl (fun _ => (by first | exact o_ld tg3 rfl rfl | exact o_ldp tg3 rfl rfl rfl rfl)) ?_
    refine d_op rfl rfl rfl (fun _ => o_mv rfl) ?_
    refine d_op rfl rfl rfl (fun _ => o_mv rfl) ?_
    refine d_op rfl rfl rfl (fun _ => (by first | exact o_ldg tg45 tn45 rfl rfl | exact o_ldpg tg45 tn45 rfl rfl rfl rfl)) ?_
    refine d_op rfl rfl rfl (fun _ => (by first | exact o_fa tf45_0 rfl rfl | exact o_fap tf45_0 rfl rfl)) ?_
    refine d_op rfl rfl rfl (fun _ => (by first | exact o_ld tg3 rfl rfl | exact o_ldp tg3 rfl rfl rfl rfl)) ?_
    refine d_w0 rfl rfl rfl (fun _ => o_muG (v := l[i]) mt186 k3 rfl rfl rfl rfl) rfl rfl rfl ?_
    refine d_op rfl rfl rfl (fun _ => o_ixo te34 tn3 rfl rfl rfl rfl hi) ?_
    have hat : ((fillR (l.map (·.id)) i).map intAV)[0 + i]? = some (intAV (fillR (l.map (·.id)) i)[i]) := by rw [Nat.zero_add]; exact mAt hfl
    refine d_w0 rfl rfl rfl (fun _ => o_stp (N := 0) (el := intAV (fillR (l.map (·.id)) i)[i]) tn3 rfl rfl rfl rfl rfl hat rfl (Nat.le_refl _)) rfl rfl rfl ?_
    refine d_nil ?_
    refine bq_n ?_
    refine tq_n ?_
    refine w_heq (H1 := [.var (planC b p), .var [.raw (.slice none 0 0), .raw (.slice none 0 0), .raw (.slice none 0 0), .raw (.slice none 0 0), .raw (.slice none 0 0), .raw (.slice none 0 0), .raw (.slice none 0 0), .raw (.slice none 0 0), .raw (.slice none 0 0), .raw (.slice none 0 0), .raw (.slice none 0 0)], .mapo (mpG itemAV (mput (mkM (·.id) (l.take i)) l[i].id l[i])), .vec 1 1 ((fillR (l.map (·.id)) (i + 1)).map intAV), .var (itemAV l[i]).cells]) (by rw [Nat.zero_add, ← fillR_set _ i hii, List.map_set, ← hid]; rfl) ?_
    refine w_view [(1, .raw (.int .i64 sw)), (3, .ptr 0 0), (6, .ptr 1 0), (10, .mp 2), (11, .slo 3 1 0 l.length), (51, .sl 4 b2 (l.map itemAV)), (52, .raw (.int .i64 ((l.length : Nat) : Int))), (53, .raw (.int .i64 ((i : Nat) : Int)))] [.var (planC b p), .var [.raw (.slice none 0 0), .raw (.slice none 0 0), .raw (.slice none 0 0), .raw (.slice none 0 0), .raw (.slice none 0 0), .raw (.slice none 0 0), .raw (.slice none 0 0), .raw (.slice none 0 0), .raw (.slice none 0 0), .raw (.slice none 0 0), .raw (.slice none 0 0)], .mapo (mpG itemAV (mput (mkM (·.id) (l.take i)) l[i].id l[i])), .vec 1 1 ((fillR (l.map (·.id)) (i + 1)).map intAV)] 4 rfl (Nat.le_of_ble_eq_true rfl) (Nat.le_of_ble_eq_true rfl) ⟨⟨_, rfl, (by first | exact .mpK (Nat.le_of_ble_eq_true rfl) | exact .sloK (Nat.le_of_ble_eq_true rfl) | exact .ptrK (Nat.le_of_ble_eq_true rfl) | exact rs_pur (by simp) rfl)⟩, ⟨_, rfl, (by first | exact .mpK (Nat.le_of_ble_eq_true rfl) | exact .sloK (Nat.le_of_ble_eq_true rfl) | exact .ptrK (Nat.le_of_ble_eq_true rfl) | exact rs_pur (by simp) rfl)⟩, ⟨_, rfl, (by first | exact .mpK (Nat.le_of_ble_eq_true rfl) | exact .sloK (Nat.le_of_ble_eq_true rfl) | exact .ptrK (Nat.le_of_ble_eq_true rfl) | exact rs_pur (by simp) rfl)⟩, ⟨_, rfl, (by first | exact .mpK (Nat.le_of_ble_eq_true rfl) | exact .sloK (Nat.le_of_ble_eq_true rfl) | exact .ptrK (Nat.le_of_ble_eq_true rfl) | exact rs_pur (by simp) rfl)⟩, ⟨_, rfl, (by first | exact .mpK (Nat.le_of_ble_eq_true rfl) | exact .sloK (Nat.le_of_ble_eq_true rfl) | exact .ptrK (Nat.le_of_ble_eq_true rfl) | exact rs_pur (by simp) rfl)⟩, ⟨_, rfl, (by first | exact .mpK (Nat.le_of_ble_eq_true rfl) | exact .sloK (Nat.le_of_ble_eq_true rfl) | exact .ptrK (Nat.le_of_ble_eq_true rfl) | exact rs_pur (by simp) rfl)⟩, ⟨_, rfl, (by first | exact .mpK (Nat.le_of_ble_eq_true rfl) | exact .sloK (Nat.le_of_ble_eq_true rfl) | exact .ptrK (Nat.le_of_ble_eq_true rfl) | exact rs_pur (by simp) rfl)⟩, ⟨_, rfl, (by first | exact .mpK (Nat.le_of_ble_eq_true rfl) | exact .sloK (Nat.le_of_ble_eq_true rfl) | exact .ptrK (Nat.le_of_ble_eq_true rfl) | exact rs_pur (by simp) rfl)⟩, trivial⟩ ⟨ors_var ⟨rs_pur (by simp) rfl, rs_pur (by simp) rfl, rs_pur (by simp) rfl, rs_pur (by simp) rfl, trivial⟩, ors_var ⟨rs_pur (by simp) rfl, rs_pur (by simp) rfl, rs_pur (by simp) rfl, rs_pur (by simp) rfl, rs_pur (by simp) rfl, rs_pur (by simp) rfl, rs_pur (by simp) rfl, rs_pur (by simp) rfl, rs_pur (by simp) rfl, rs_pur (by simp) rfl, rs_pur (by simp) rfl, trivial⟩, ors_mpG (fun x => by simp) _, ors_vec (pu_int _), trivial⟩ ?_
    refine w_reg (l := r26_13.toList) rfl r26_13_ok ?_
    refine a_op rfl (o_add rfl rfl (by simp only [klo, khi]; omega)) ?_
    refine a_op rfl (o_mv rfl) ?_
    refine a_nil ?_
    refine tq_n ?_
    exact ⟨i + 1, ⟨by omega, by omega⟩, ⟨(by first | exact sub_int rfl (by omega) | rfl), (by first | exact sub_int rfl (by omega) | rfl), (by first | exact sub_int rfl (by omega) | rfl), (by first | exact sub_int rfl (by omega) | rfl), (by first | exact sub_int rfl (by omega) | rfl), (by first | exact sub_int rfl (by omega) | rfl), (by first | exact sub_int rfl (by omega) | rfl), (by first | exact sub_int rfl (by omega) | rfl), trivial⟩, by rw [mkM_succ (·.id) hi]⟩
  refine a_nil ?_
  refine tq_n ?_
  refine awp_seq ?_
  refine w_false rfl ?_
  refine awp_exit ?_
  refine tq_x ?_
  refine tq_x ?_
  refine bq_hit ?_
  refine tq_n ?_
  refine awp_seq ?_
  refine awp_seq ?_
  refine w_reg (l := r26_14.toList) rfl r26_14_ok ?_
  refine a_op rfl (o_mv rfl) ?_
  refine a_lend (vs' := [.sl 1 false ((l.map (·.id)).map intAV)]) rfl rfl rfl cb74 (different_ok _ _ (by simp; omega)) ⟨rs_slo id rfl (by rw [List.length_map, fillR_len _ _ (by rw [List.length_map]; omega), List.length_map]) (pu_int _) (by rw [show i = l.length by omega, show fillR (l.map (·.id)) l.length = (l.map (·.id)) by rw [show l.length = (l.map (·.id)).length by simp, fillR_all]]), trivial⟩ (by simp) ?_
  refine a_ifb rfl (o_nt rfl) (fun h11 => ?_) (fun h12 => ?_)
  · refine a_nil ?_
    refine tq_n ?_
    refine w_true rfl ?_
    refine awp_seq ?_
    refine w_reg (l := r26_15.toList) rfl r26_15_ok ?_
    refine a_op rfl (o_bd tz62 rfl tp62 rfl rfl) ?_
    refine a_op0 rfl (o_st (N := 10) tn62 rfl rfl rfl rfl rfl) ?_
    refine a_op rfl (o_as rfl) ?_
    refine a_nil ?_
    refine tq_n ?_
    refine awp_ret ?_
    refine tq_r ?_
    refine r_tup (xs := []) rfl ⟨c_ag tg62 tn62 rfl rfl, rfl, trivial⟩ ?_
    have hr : twoF p sw l = (emptyB, 292) := by rw [twoF, if_neg (by assumption), if_neg (by omega), if_neg (by omega), if_neg (by simp_all)]
    rw [hr]
    exact rs_tup ⟨rs_emptyB, .raw _, trivial⟩
  refine a_nil ?_
  refine tq_n ?_
  refine w_false rfl ?_
  refine awp_skip ?_
  refine tq_n ?_
  refine awp_seq ?_
  refine w_reg (l := r26_16.toList) rfl r26_16_ok ?_
  refine a_opH rfl (o_mm (N := 4) rfl rfl) (H' := [.var (planC b p), .var [.raw (.slice none 0 0), .raw (.slice none 0 0), .raw (.slice none 0 0), .raw (.slice none 0 0), .raw (.slice none 0 0), .raw (.slice none 0 0), .raw (.slice none 0 0), .raw (.slice none 0 0), .raw (.slice none 0 0), .raw (.slice none 0 0), .raw (.slice none 0 0)], .mapo (mpG itemAV (mkM (·.id) l)), .vec 1 1 ((fillR (l.map (·.id)) l.length).map intAV), .mapo (mpG seatAV (mkM (·.stop) (p.seats.take 0)))]) (by rw [show i = l.length by omega, List.take_length]; rfl) ?_
  refine a_op rfl (o_as rfl) ?_
  refine a_nil ?_
  refine tq_n ?_
  refine awp_seq ?_
  refine awp_seq ?_
  refine w_reg (l := r26_17.toList) rfl r26_17_ok ?_
  refine a_op rfl ((by first | exact o_fa tf51_1 rfl rfl | exact o_fap tf51_1 rfl rfl)) ?_
  refine a_op rfl ((by first | exact o_ld tg49 rfl rfl | exact o_ldp tg49 rfl rfl rfl rfl)) ?_
  refine a_op rfl (o_len rfl rfl (by first | exact List.length_map .. | rfl) tl49) ?_
  refine a_op rfl (o_mv rfl) ?_
  refine a_nil ?_
  refine tq_n ?_
  refine awp_block ?_
  refine w_loop (fun i : Nat => i ≤ p.seats.length) (fun i => [(1, .raw (.int .i64 sw)), (3, .ptr 0 0), (6, .ptr 1 0), (10, .mp 2), (11, .slo 3 1 0 l.length), (14, .mp 4), (74, .sl 4 b.b1 (p.seats.map seatAV)), (75, .raw (.int .i64 ((p.seats.length : Nat) : Int))), (76, .raw (.int .i64 ((i : Nat) : Int)))]) (fun i => [.var (planC b p), .var [.raw (.slice none 0 0), .raw (.slice none 0 0), .raw (.slice none 0 0), .raw (.slice none 0 0), .raw (.slice none 0 0), .raw (.slice none 0 0), .raw (.slice none 0 0), .raw (.slice none 0 0), .raw (.slice none 0 0), .raw (.slice none 0 0), .raw (.slice none 0 0)], .mapo (mpG itemAV (mkM (·.id) l)), .vec 1 1 ((fillR (l.map (·.id)) l.length).map intAV), .mapo (mpG seatAV (mkM (·.stop) (p.seats.take i)))]) (fun i => p.seats.length - i) (0) (by simp) ⟨(by first | exact sub_int rfl (by omega) | rfl), (by first | exact sub_int rfl (by omega) | rfl), (by first | exact sub_int rfl (by omega) | rfl), (by first | exact sub_int rfl (by omega) | rfl), (by first | exact sub_int rfl (by omega) | rfl), (by first | exact sub_int rfl (by omega) | rfl), (by first | exact sub_int rfl (by omega) | rfl), (by first | exact sub_int rfl (by omega) | rfl), (by first | exact sub_int rfl (by omega) | rfl), trivial⟩ rfl ?_
  intro i hp
  unfold b26_1
  refine awp_seq ?_
  refine w_reg (l := r26_18.toList) rfl r26_18_ok ?_
  refine a_if rfl (o_lt rfl rfl) (fun h13 => ?_) (fun h14 => ?_)
  · refine a_nil ?_
    refine tq_n ?_
    refine awp_seq ?_
    refine w_true rfl ?_
    refine awp_skip ?_
    refine tq_n ?_
    refine awp_seq ?_
    refine awp_block ?_
    refine awp_seq ?_
    have hi : i < p.seats.length := by omega
    refine w_reg (l := r26_19.toList) rfl r26_19_ok ?_
    refine a_op rfl (o_ix te49 tn89 rfl rfl rfl (ixm _ _ _ hi)) ?_
    refine a_op rfl ((by first | exact o_ldg tg89 tn89 rfl rfl | exact o_ldpg tg89 tn89 rfl rfl rfl rfl)) ?_
    refine a_op rfl (o_al (N := 5) tz89 rfl rfl rfl) ?_
    refine a_op0 rfl (o_st (N := 3) tn89 rfl rfl rfl rfl rfl) ?_
    refine a_nil ?_
    refine tq_n ?_
    refine w_reg (l := r26_20.toList) rfl r26_20_ok ?_
    refine a_op rfl (o_mv rfl) ?_
    refine a_op rfl ((by first | exact o_fa tf89_0 rfl rfl | exact o_fap tf89_0 rfl rfl)) ?_
    refine a_op rfl ((by first | exact o_ld tg3 rfl rfl | exact o_ldp tg3 rfl rfl rfl rfl)) ?_
    refine a_op rfl ((by first | exact o_ldg tg89 tn89 rfl rfl | exact o_ldpg tg89 tn89 rfl rfl rfl rfl)) ?_
    refine a_op0 rfl (o_muG (v := p.seats[i]) mt187 k3 rfl rfl rfl rfl) ?_
    refine a_nil ?_
    refine bq_n ?_
    refine tq_n ?_
    refine w_view [(1, .raw (.int .i64 sw)), (3, .ptr 0 0), (6, .ptr 1 0), (10, .mp 2), (11, .slo 3 1 0 l.length), (14, .mp 4), (74, .sl 4 b.b1 (p.seats.map seatAV)), (75, .raw (.int .i64 ((p.seats.length : Nat) : Int))), (76, .raw (.int .i64 ((i : Nat) : Int)))] [.var (planC b p), .var [.raw (.slice none 0 0), .raw (.slice none 0 0), .raw (.slice none 0 0), .raw (.slice none 0 0), .raw (.slice none 0 0), .raw (.slice none 0 0), .raw (.slice none 0 0), .raw (.slice none 0 0), .raw (.slice none 0 0), .raw (.slice none 0 0), .raw (.slice none 0 0)], .mapo (mpG itemAV (mkM (·.id) l)), .vec 1 1 ((fillR (l.map (·.id)) l.length).map intAV), .mapo (mpG seatAV (mput (mkM (·.stop) (p.seats.take i)) p.seats[i].stop p.seats[i]))] 5 rfl (Nat.le_of_ble_eq_true rfl) (Nat.le_of_ble_eq_true rfl) ⟨⟨_, rfl, (by first | exact .mpK (Nat.le_of_ble_eq_true rfl) | exact .sloK (Nat.le_of_ble_eq_true rfl) | exact .ptrK (Nat.le_of_ble_eq_true rfl) | exact rs_pur (by simp) rfl)⟩, ⟨_, rfl, (by first | exact .mpK (Nat.le_of_ble_eq_true rfl) | exact .sloK (Nat.le_of_ble_eq_true rfl) | exact .ptrK (Nat.le_of_ble_eq_true rfl) | exact rs_pur (by simp) rfl)⟩, ⟨_, rfl, (by first | exact .mpK (Nat.le_of_ble_eq_true rfl) | exact .sloK (Nat.le_of_ble_eq_true rfl) | exact .ptrK (Nat.le_of_ble_eq_true rfl) | exact rs_pur (by simp) rfl)⟩, ⟨_, rfl, (by first | exact .mpK (Nat.le_of_ble_eq_true rfl) | exact .sloK (Nat.le_of_ble_eq_true rfl) | exact .ptrK (Nat.le_of_ble_eq_true rfl) | exact rs_pur (by simp) rfl)⟩, ⟨_, rfl, (by first | exact .mpK (Nat.le_of_ble_eq_true rfl) | exact .sloK (Nat.le_of_ble_eq_true rfl) | exact .ptrK (Nat.le_of_ble_eq_true rfl) | exact rs_pur (by simp) rfl)⟩, ⟨_, rfl, (by first | exact .mpK (Nat.le_of_ble_eq_true rfl) | exact .sloK (Nat.le_of_ble_eq_true rfl) | exact .ptrK (Nat.le_of_ble_eq_true rfl) | exact rs_pur (by simp) rfl)⟩, ⟨_, rfl, (by first | exact .mpK (Nat.le_of_ble_eq_true rfl) | exact .sloK (Nat.le_of_ble_eq_true rfl) | exact .ptrK (Nat.le_of_ble_eq_true rfl) | exact rs_pur (by simp) rfl)⟩, ⟨_, rfl, (by first | exact .mpK (Nat.le_of_ble_eq_true rfl) | exact .sloK (Nat.le_of_ble_eq_true rfl) | exact .ptrK (Nat.le_of_ble_eq_true rfl) | exact rs_pur (by simp) rfl)⟩, ⟨_, rfl, (by first | exact .mpK (Nat.le_of_ble_eq_true rfl) | exact .sloK (Nat.le_of_ble_eq_true rfl) | exact .ptrK (Nat.le_of_ble_eq_true rfl) | exact rs_pur (by simp) rfl)⟩, trivial⟩ ⟨ors_var ⟨rs_pur (by simp) rfl, rs_pur (by simp) rfl, rs_pur (by simp) rfl, rs_pur (by simp) rfl, trivial⟩, ors_var ⟨rs_pur (by simp) rfl, rs_pur (by simp) rfl, rs_pur (by simp) rfl, rs_pur (by simp) rfl, rs_pur (by simp) rfl, rs_pur (by simp) rfl, rs_pur (by simp) rfl, rs_pur (by simp) rfl, rs_pur (by simp) rfl, rs_pur (by simp) rfl, rs_pur (by simp) rfl, trivial⟩, ors_mpG (fun x => by simp) _, ors_vec (pu_int _), ors_mpG (fun x => by simp) _, trivial⟩ ?_
    refine w_reg (l := r26_21.toList) rfl r26_21_ok ?_
    refine a_op rfl (o_add rfl rfl (by simp only [klo, khi]; omega)) ?_
    refine a_op rfl (o_mv rfl) ?_
    refine a_nil ?_
    refine tq_n ?_
    exact ⟨i + 1, ⟨by omega, by omega⟩, ⟨(by first | exact sub_int rfl (by omega) | rfl), (by first | exact sub_int rfl (by omega) | rfl), (by first | exact sub_int rfl (by omega) | rfl), (by first | exact sub_int rfl (by omega) | rfl), (by first | exact sub_int rfl (by omega) | rfl), (by first | exact sub_int rfl (by omega) | rfl), (by first | exact sub_int rfl (by omega) | rfl), (by first | exact sub_int rfl (by omega) | rfl), (by first | exact sub_int rfl (by omega) | rfl), trivial⟩, by rw [mkM_succ (·.stop) hi]⟩
  refine a_nil ?_
  refine tq_n ?_
  refine awp_seq ?_
  refine w_false rfl ?_
  refine awp_exit ?_
  refine tq_x ?_
  refine tq_x ?_
  refine bq_hit ?_
  refine tq_n ?_
  refine awp_seq ?_
  refine w_reg (l := r26_22.toList) rfl r26_22_ok ?_
  refine a_op rfl (o_as rfl) ?_
  refine a_op rfl (o_as rfl) ?_
  refine a_nil ?_
  refine tq_n ?_
  refine awp_seq ?_
  refine awp_seq ?_
  refine w_heq (H1 := [.var (planC b p), .var [.raw (.slice none 0 0), .raw (.slice none 0 0), .raw (.slice none 0 0), .raw (.slice none 0 0), .raw (.slice none 0 0), .raw (.slice none 0 0), .raw (.slice none 0 0), .raw (.slice none 0 0), .raw (.slice none 0 0), .raw (.slice none 0 0), .raw (.slice none 0 0)], .mapo (mpG itemAV (mkM (·.id) l)), .vec 1 1 ((l.map (·.id)).map intAV), .mapo (mpG seatAV (mkM (·.stop) p.seats))]) (by rw [show i = p.seats.length by omega, List.take_length, show fillR (l.map (·.id)) l.length = (l.map (·.id)) by rw [show l.length = (l.map (·.id)).length by simp, fillR_all]]) ?_
  refine w_own (q := 17) (z := 2) (N := 5) (by decide) rfl rfl rfl ?_
  refine w_reg (l := r26_23.toList) rfl r26_23_ok ?_
  refine a_op rfl (o_mv rfl) ?_
  refine a_op rfl (o_len rfl rfl (by first | exact List.length_map .. | rfl) tl34) ?_
  refine a_op rfl (o_mv rfl) ?_
  refine a_nil ?_
  refine tq_n ?_
  refine awp_block ?_
  refine w_loop (fun i : Nat => i ≤ l.length) (fun i => [(1, .raw (.int .i64 sw)), (3, .ptr 0 0), (6, .ptr 1 0), (10, .mp 2), (14, .mp 4), (17, .slo 5 i 0 i), (18, .raw (.slice none 0 0)), (85, .slo 3 1 0 l.length), (86, .raw (.int .i64 ((l.length : Nat) : Int))), (87, .raw (.int .i64 ((i : Nat) : Int)))]) (fun i => [.var (planC b p), .var [.raw (.slice none 0 0), .raw (.slice none 0 0), .raw (.slice none 0 0), .raw (.slice none 0 0), .raw (.slice none 0 0), .raw (.slice none 0 0), .raw (.slice none 0 0), .raw (.slice none 0 0), .raw (.slice none 0 0), .raw (.slice none 0 0), .raw (.slice none 0 0)], .mapo (mpG itemAV (mkM (·.id) l)), .vec 1 1 ((l.map (·.id)).map intAV), .mapo (mpG seatAV (mkM (·.stop) p.seats)), .vec 2 i (((firstL p l).take i).map feedAV)]) (fun i => l.length - i) (0) (by simp) ⟨(by first | exact sub_int rfl (by omega) | rfl), (by first | exact sub_int rfl (by omega) | rfl), (by first | exact sub_int rfl (by omega) | rfl), (by first | exact sub_int rfl (by omega) | rfl), (by first | exact sub_int rfl (by omega) | rfl), (by first | exact sub_int rfl (by omega) | rfl), (by first | exact sub_int rfl (by omega) | rfl), (by first | exact sub_int rfl (by omega) | rfl), (by first | exact sub_int rfl (by omega) | rfl), (by first | exact sub_int rfl (by omega) | rfl), trivial⟩ rfl ?_
  intro i hp
  unfold b26_2
  refine awp_seq ?_
  refine w_reg (l := r26_24.toList) rfl r26_24_ok ?_
  refine a_if rfl (o_lt rfl rfl) (fun h15 => ?_) (fun h16 => ?_)
  · refine a_nil ?_
    refine tq_n ?_
    refine awp_seq ?_
    refine w_true rfl ?_
    refine awp_skip ?_
    refine tq_n ?_
    refine awp_seq ?_
    refine awp_block ?_
    refine awp_seq ?_
    have hi : i < l.length := by omega
    have hii : i < (l.map (·.id)).length := by simpa using hi
    refine w_reg (l := r26_25.toList) rfl r26_25_ok ?_
    refine a_op rfl (o_ixo te34 tn3 rfl rfl rfl rfl hi) ?_
    refine a_op rfl (o_ldp (el := intAV (l.map (·.id))[i]) tg3 rfl rfl (by rw [Nat.zero_add]; exact mAt hii) rfl) ?_
    refine a_op rfl (o_as rfl) ?_
    refine a_nil ?_
    refine tq_n ?_
    refine awp_seq ?_
    refine w_reg (l := r26_26.toList) rfl r26_26_ok ?_
    refine a_op rfl (o_mv rfl) ?_
    refine a_op rfl (o_mv rfl) ?_
    refine a_op rfl (o_mv rfl) ?_
    refine a_op rfl (o_lkG0 (d := i0R) mt186 k3 mz45 vz45 rfl rfl rfl) ?_
    rw [show (mget (mkM (·.id) l) (l.map (·.id))[i]).getD i0R = itmOf l (l.map (·.id))[i] from rfl]
    refine a_op rfl (o_fd tf45_1 tn3 tg3 rfl rfl) ?_
    refine a_op rfl (o_lkG (d := s0R) mt187 k3 mz89 vz89 rfl rfl rfl) ?_
    rw [show mget (mkM (·.stop) p.seats) (itmOf l (l.map (·.id))[i]).stop = stOf p (itmOf l (l.map (·.id))[i]).stop from rfl]
    refine a_op rfl (o_mv rfl) ?_
    refine a_op rfl (o_ex rfl rfl) ?_
    refine a_op rfl (o_ex rfl rfl) ?_
    refine a_op rfl (o_al (N := 6) tz89 rfl rfl rfl) ?_
    refine a_op0 rfl (o_st (N := 3) tn89 rfl rfl rfl rfl rfl) ?_
    refine a_op rfl (o_as rfl) ?_
    refine a_nil ?_
    refine tq_n ?_
    refine awp_seq ?_
    refine awp_seq ?_
    refine w_reg (l := r26_27.toList) rfl r26_27_ok ?_
    refine a_ifb rfl (o_mv rfl) (fun h17 => ?_) (fun h18 => ?_)
    · refine a_op rfl (o_ntt rfl) ?_
      refine a_op rfl (o_mv rfl) ?_
      refine a_op rfl (o_mv rfl) ?_
      refine a_op rfl (o_mv rfl) ?_
      refine a_op rfl (o_lkG0 (d := i0R) mt186 k3 mz45 vz45 rfl rfl rfl) ?_
      rw [show (mget (mkM (·.id) l) (l.map (·.id))[i]).getD i0R = itmOf l (l.map (·.id))[i] from rfl]
      refine a_ifb rfl (o_fd tf45_2 tn4 tg4 rfl rfl) (fun h19 => ?_) (fun h20 => ?_)
      · refine a_op rfl (o_ntt rfl) ?_
        refine a_op rfl (o_pkf rfl rfl) ?_
        refine a_nil ?_
        refine tq_n ?_
        refine w_false rfl ?_
        refine awp_skip ?_
        refine tq_n ?_
        refine w_reg (l := r26_29.toList) rfl r26_29_ok ?_
        refine a_op rfl (o_mv rfl) ?_
        refine a_op rfl (o_mv rfl) ?_
        refine a_op rfl ((by first | exact o_fa tf89_2 rfl rfl | exact o_fap tf89_2 rfl rfl)) ?_
        refine a_op rfl ((by first | exact o_ld tg3 rfl rfl | exact o_ldp tg3 rfl rfl rfl rfl)) ?_
        refine a_op rfl (o_bd tz75 rfl tp75 rfl rfl) ?_
        refine a_op rfl (o_bs tE68 (by decide) rfl rfl rfl) ?_
        refine a_op rfl (o_ap tE68 rfl rfl (by simp [firstL_len] <;> omega) rfl rfl rfl (by simp [firstL_len]; omega) (by simp [firstL_len]; omega) rfl rfl rfl rfl) ?_
        refine a_op rfl (o_as rfl) ?_
        refine a_nil ?_
        refine bq_n ?_
        refine tq_n ?_
        refine w_heq (H1 := [.var (planC b p), .var [.raw (.slice none 0 0), .raw (.slice none 0 0), .raw (.slice none 0 0), .raw (.slice none 0 0), .raw (.slice none 0 0), .raw (.slice none 0 0), .raw (.slice none 0 0), .raw (.slice none 0 0), .raw (.slice none 0 0), .raw (.slice none 0 0), .raw (.slice none 0 0)], .mapo (mpG itemAV (mkM (·.id) l)), .vec 1 1 ((l.map (·.id)).map intAV), .mapo (mpG seatAV (mkM (·.stop) p.seats)), .vec 2 (i + 1) (((firstL p l).take i).map feedAV ++ [feedAV ⟨(l.map (·.id))[i], ((stOf p (itmOf l (l.map (·.id))[i]).stop).getD s0R).fst⟩]), .var (seatAV ⟨((stOf p (itmOf l (l.map (·.id))[i]).stop).getD s0R).stop, ((stOf p (itmOf l (l.map (·.id))[i]).stop).getD s0R).vol, ((stOf p (itmOf l (l.map (·.id))[i]).stop).getD s0R).fst, ((stOf p (itmOf l (l.map (·.id))[i]).stop).getD s0R).snd⟩).cells]) rfl ?_
        refine w_view [(1, .raw (.int .i64 sw)), (3, .ptr 0 0), (6, .ptr 1 0), (10, .mp 2), (14, .mp 4), (17, .slo 5 (i + 1) 0 (i + 1)), (18, .raw (.slice none 0 0)), (85, .slo 3 1 0 l.length), (86, .raw (.int .i64 ((l.length : Nat) : Int))), (87, .raw (.int .i64 ((i : Nat) : Int)))] [.var (planC b p), .var [.raw (.slice none 0 0), .raw (.slice none 0 0), .raw (.slice none 0 0), .raw (.slice none 0 0), .raw (.slice none 0 0), .raw (.slice none 0 0), .raw (.slice none 0 0), .raw (.slice none 0 0), .raw (.slice none 0 0), .raw (.slice none 0 0), .raw (.slice none 0 0)], .mapo (mpG itemAV (mkM (·.id) l)), .vec 1 1 ((l.map (·.id)).map intAV), .mapo (mpG seatAV (mkM (·.stop) p.seats)), .vec 2 (i + 1) (((firstL p l).take i).map feedAV ++ [feedAV ⟨(l.map (·.id))[i], ((stOf p (itmOf l (l.map (·.id))[i]).stop).getD s0R).fst⟩])] 6 rfl (Nat.le_of_ble_eq_true rfl) (Nat.le_of_ble_eq_true rfl) ⟨⟨_, rfl, (by first | exact .mpK (Nat.le_of_ble_eq_true rfl) | exact .sloK (Nat.le_of_ble_eq_true rfl) | exact .ptrK (Nat.le_of_ble_eq_true rfl) | exact rs_pur (by simp) rfl)⟩, ⟨_, rfl, (by first | exact .mpK (Nat.le_of_ble_eq_true rfl) | exact .sloK (Nat.le_of_ble_eq_true rfl) | exact .ptrK (Nat.le_of_ble_eq_true rfl) | exact rs_pur (by simp) rfl)⟩, ⟨_, rfl, (by first | exact .mpK (Nat.le_of_ble_eq_true rfl) | exact .sloK (Nat.le_of_ble_eq_true rfl) | exact .ptrK (Nat.le_of_ble_eq_true rfl) | exact rs_pur (by simp) rfl)⟩, ⟨_, rfl, (by first | exact .mpK (Nat.le_of_ble_eq_true rfl) | exact .sloK (Nat.le_of_ble_eq_true rfl) | exact .ptrK (Nat.le_of_ble_eq_true rfl) | exact rs_pur (by simp) rfl)⟩, ⟨_, rfl, (by first | exact .mpK (Nat.le_of_ble_eq_true rfl) | exact .sloK (Nat.le_of_ble_eq_true rfl) | exact .ptrK (Nat.le_of_ble_eq_true rfl) | exact rs_pur (by simp) rfl)⟩, ⟨_, rfl, (by first | exact .mpK (Nat.le_of_ble_eq_true rfl) | exact .sloK (Nat.le_of_ble_eq_true rfl) | exact .ptrK (Nat.le_of_ble_eq_true rfl) | exact rs_pur (by simp) rfl)⟩, ⟨_, rfl, (by first | exact .mpK (Nat.le_of_ble_eq_true rfl) | exact .sloK (Nat.le_of_ble_eq_true rfl) | exact .ptrK (Nat.le_of_ble_eq_true rfl) | exact rs_pur (by simp) rfl)⟩, ⟨_, rfl, (by first | exact .mpK (Nat.le_of_ble_eq_true rfl) | exact .sloK (Nat.le_of_ble_eq_true rfl) | exact .ptrK (Nat.le_of_ble_eq_true rfl) | exact rs_pur (by simp) rfl)⟩, ⟨_, rfl, (by first | exact .mpK (Nat.le_of_ble_eq_true rfl) | exact .sloK (Nat.le_of_ble_eq_true rfl) | exact .ptrK (Nat.le_of_ble_eq_true rfl) | exact rs_pur (by simp) rfl)⟩, ⟨_, rfl, (by first | exact .mpK (Nat.le_of_ble_eq_true rfl) | exact .sloK (Nat.le_of_ble_eq_true rfl) | exact .ptrK (Nat.le_of_ble_eq_true rfl) | exact rs_pur (by simp) rfl)⟩, trivial⟩ ⟨ors_var ⟨rs_pur (by simp) rfl, rs_pur (by simp) rfl, rs_pur (by simp) rfl, rs_pur (by simp) rfl, trivial⟩, ors_var ⟨rs_pur (by simp) rfl, rs_pur (by simp) rfl, rs_pur (by simp) rfl, rs_pur (by simp) rfl, rs_pur (by simp) rfl, rs_pur (by simp) rfl, rs_pur (by simp) rfl, rs_pur (by simp) rfl, rs_pur (by simp) rfl, rs_pur (by simp) rfl, rs_pur (by simp) rfl, trivial⟩, ors_mpG (fun x => by simp) _, ors_vec (pu_int _), ors_mpG (fun x => by simp) _, ors_vec (pu_feed1 _ _), trivial⟩ ?_
        refine w_reg (l := r26_30.toList) rfl r26_30_ok ?_
        refine a_op rfl (o_add rfl rfl (by simp only [klo, khi]; omega)) ?_
        refine a_op rfl (o_mv rfl) ?_
        refine a_nil ?_
        refine tq_n ?_
        exact ⟨i + 1, ⟨by omega, by omega⟩, ⟨(by first | exact sub_int rfl (by omega) | rfl), (by first | exact sub_int rfl (by omega) | rfl), (by first | exact sub_int rfl (by omega) | rfl), (by first | exact sub_int rfl (by omega) | rfl), (by first | exact sub_int rfl (by omega) | rfl), (by first | exact sub_int rfl (by omega) | rfl), (by first | exact sub_int rfl (by omega) | rfl), (by first | exact sub_int rfl (by omega) | rfl), (by first | exact sub_int rfl (by omega) | rfl), (by first | exact sub_int rfl (by omega) | rfl), trivial⟩, by rw [firstL_succ hii (v := ((stOf p (itmOf l (l.map (·.id))[i]).stop).getD s0R).fst) (by simp_all [feed1])]; simp only [List.map_append, List.map_cons, List.map_nil]⟩
      refine a_op rfl (o_ntf rfl) ?_
      refine a_op rfl (o_pkf rfl rfl) ?_
      refine a_nil ?_
      refine tq_n ?_
      refine w_true rfl ?_
      refine w_reg (l := r26_28.toList) rfl r26_28_ok ?_
      refine a_op rfl ((by first | exact o_fa tf89_2 rfl rfl | exact o_fap tf89_2 rfl rfl)) ?_
      refine a_op0 rfl (o_st (N := 0) tn3 rfl rfl rfl rfl rfl) ?_
      refine a_nil ?_
      refine tq_n ?_
      refine w_reg (l := r26_29.toList) rfl r26_29_ok ?_
      refine a_op rfl (o_mv rfl) ?_
      refine a_op rfl (o_mv rfl) ?_
      refine a_op rfl ((by first | exact o_fa tf89_2 rfl rfl | exact o_fap tf89_2 rfl rfl)) ?_
      refine a_op rfl ((by first | exact o_ld tg3 rfl rfl | exact o_ldp tg3 rfl rfl rfl rfl)) ?_
      refine a_op rfl (o_bd tz75 rfl tp75 rfl rfl) ?_
      refine a_op rfl (o_bs tE68 (by decide) rfl rfl rfl) ?_
      refine a_op rfl (o_ap tE68 rfl rfl (by simp [firstL_len] <;> omega) rfl rfl rfl (by simp [firstL_len]; omega) (by simp [firstL_len]; omega) rfl rfl rfl rfl) ?_
      refine a_op rfl (o_as rfl) ?_
      refine a_nil ?_
      refine bq_n ?_
      refine tq_n ?_
      refine w_heq (H1 := [.var (planC b p), .var [.raw (.slice none 0 0), .raw (.slice none 0 0), .raw (.slice none 0 0), .raw (.slice none 0 0), .raw (.slice none 0 0), .raw (.slice none 0 0), .raw (.slice none 0 0), .raw (.slice none 0 0), .raw (.slice none 0 0), .raw (.slice none 0 0), .raw (.slice none 0 0)], .mapo (mpG itemAV (mkM (·.id) l)), .vec 1 1 ((l.map (·.id)).map intAV), .mapo (mpG seatAV (mkM (·.stop) p.seats)), .vec 2 (i + 1) (((firstL p l).take i).map feedAV ++ [feedAV ⟨(l.map (·.id))[i], -1⟩]), .var (seatAV ⟨((stOf p (itmOf l (l.map (·.id))[i]).stop).getD s0R).stop, ((stOf p (itmOf l (l.map (·.id))[i]).stop).getD s0R).vol, -1, ((stOf p (itmOf l (l.map (·.id))[i]).stop).getD s0R).snd⟩).cells]) rfl ?_
      refine w_view [(1, .raw (.int .i64 sw)), (3, .ptr 0 0), (6, .ptr 1 0), (10, .mp 2), (14, .mp 4), (17, .slo 5 (i + 1) 0 (i + 1)), (18, .raw (.slice none 0 0)), (85, .slo 3 1 0 l.length), (86, .raw (.int .i64 ((l.length : Nat) : Int))), (87, .raw (.int .i64 ((i : Nat) : Int)))] [.var (planC b p), .var [.raw (.slice none 0 0), .raw (.slice none 0 0), .raw (.slice none 0 0), .raw (.slice none 0 0), .raw (.slice none 0 0), .raw (.slice none 0 0), .raw (.slice none 0 0), .raw (.slice none 0 0), .raw (.slice none 0 0), .raw (.slice none 0 0), .raw (.slice none 0 0)], .mapo (mpG itemAV (mkM (·.id) l)), .vec 1 1 ((l.map (·.id)).map intAV), .mapo (mpG seatAV (mkM (·.stop) p.seats)), .vec 2 (i + 1) (((firstL p l).take i).map feedAV ++ [feedAV ⟨(l.map (·.id))[i], -1⟩])] 6 rfl (Nat.le_of_ble_eq_true rfl) (Nat.le_of_ble_eq_true rfl) ⟨⟨_, rfl, (by first | exact .mpK (Nat.le_of_ble_eq_true rfl) | exact .sloK (Nat.le_of_ble_eq_true rfl) | exact .ptrK (Nat.le_of_ble_eq_true rfl) | exact rs_pur (by simp) rfl)⟩, ⟨_, rfl, (by first | exact .mpK (Nat.le_of_ble_eq_true rfl) | exact .sloK (Nat.le_of_ble_eq_true rfl) | exact .ptrK (Nat.le_of_ble_eq_true rfl) | exact rs_pur (by simp) rfl)⟩, ⟨_, rfl, (by first | exact .mpK (Nat.le_of_ble_eq_true rfl) | exact .sloK (Nat.le_of_ble_eq_true rfl) | exact .ptrK (Nat.le_of_ble_eq_true rfl) | exact rs_pur (by simp) rfl)⟩, ⟨_, rfl, (by first | exact .mpK (Nat.le_of_ble_eq_true rfl) | exact .sloK (Nat.le_of_ble_eq_true rfl) | exact .ptrK (Nat.le_of_ble_eq_true rfl) | exact rs_pur (by simp) rfl)⟩, ⟨_, rfl, (by first | exact .mpK (Nat.le_of_ble_eq_true rfl) | exact .sloK (Nat.le_of_ble_eq_true rfl) | exact .ptrK (Nat.le_of_ble_eq_true rfl) | exact rs_pur (by simp) rfl)⟩, ⟨_, rfl, (by first | exact .mpK (Nat.le_of_ble_eq_true rfl) | exact .sloK (Nat.le_of_ble_eq_true rfl) | exact .ptrK (Nat.le_of_ble_eq_true rfl) | exact rs_pur (by simp) rfl)⟩, ⟨_, rfl, (by first | exact .mpK (Nat.le_of_ble_eq_true rfl) | exact .sloK (Nat.le_of_ble_eq_true rfl) | exact .ptrK (Nat.le_of_ble_eq_true rfl) | exact rs_pur (by simp) rfl)⟩, ⟨_, rfl, (by first | exact .mpK (Nat.le_of_ble_eq_true rfl) | exact .sloK (Nat.le_of_ble_eq_true rfl) | exact .ptrK (Nat.le_of_ble_eq_true rfl) | exact rs_pur (by simp) rfl)⟩, ⟨_, rfl, (by first | exact .mpK (Nat.le_of_ble_eq_true rfl) | exact .sloK (Nat.le_of_ble_eq_true rfl) | exact .ptrK (Nat.le_of_ble_eq_true rfl) | exact rs_pur (by simp) rfl)⟩, ⟨_, rfl, (by first | exact .mpK (Nat.le_of_ble_eq_true rfl) | exact .sloK (Nat.le_of_ble_eq_true rfl) | exact .ptrK (Nat.le_of_ble_eq_true rfl) | exact rs_pur (by simp) rfl)⟩, trivial⟩ ⟨ors_var ⟨rs_pur (by simp) rfl, rs_pur (by simp) rfl, rs_pur (by simp) rfl, rs_pur (by simp) rfl, trivial⟩, ors_var ⟨rs_pur (by simp) rfl, rs_pur (by simp) rfl, rs_pur (by simp) rfl, rs_pur (by simp) rfl, rs_pur (by simp) rfl, rs_pur (by simp) rfl, rs_pur (by simp) rfl, rs_pur (by simp) rfl, rs_pur (by simp) rfl, rs_pur (by simp) rfl, rs_pur (by simp) rfl, trivial⟩, ors_mpG (fun x => by simp) _, ors_vec (pu_int _), ors_mpG (fun x => by simp) _, ors_vec (pu_feed1 _ _), trivial⟩ ?_
      refine w_reg (l := r26_30.toList) rfl r26_30_ok ?_
      refine a_op rfl (o_add rfl rfl (by simp only [klo, khi]; omega)) ?_
      refine a_op rfl (o_mv rfl) ?_
      refine a_nil ?_
      refine tq_n ?_
      exact ⟨i + 1, ⟨by omega, by omega⟩, ⟨(by first | exact sub_int rfl (by omega) | rfl), (by first | exact sub_int rfl (by omega) | rfl), (by first | exact sub_int rfl (by omega) | rfl), (by first | exact sub_int rfl (by omega) | rfl), (by first | exact sub_int rfl (by omega) | rfl), (by first | exact sub_int rfl (by omega) | rfl), (by first | exact sub_int rfl (by omega) | rfl), (by first | exact sub_int rfl (by omega) | rfl), (by first | exact sub_int rfl (by omega) | rfl), (by first | exact sub_int rfl (by omega) | rfl), trivial⟩, by rw [firstL_succ hii (v := -1) (by simp_all [feed1])]; simp only [List.map_append, List.map_cons, List.map_nil]⟩
    refine a_op rfl (o_ntf rfl) ?_
    refine a_op rfl (o_mv rfl) ?_
    refine a_off rfl ?_
    refine a_off rfl ?_
    refine a_off rfl ?_
    refine a_off rfl ?_
    refine a_off rfl ?_
    refine a_op rfl (o_pkt rfl rfl) ?_
    refine a_nil ?_
    refine tq_n ?_
    refine w_true rfl ?_
    refine w_reg (l := r26_28.toList) rfl r26_28_ok ?_
    refine a_op rfl ((by first | exact o_fa tf89_2 rfl rfl | exact o_fap tf89_2 rfl rfl)) ?_
    refine a_op0 rfl (o_st (N := 0) tn3 rfl rfl rfl rfl rfl) ?_
    refine a_nil ?_
    refine tq_n ?_
    refine w_reg (l := r26_29.toList) rfl r26_29_ok ?_
    refine a_op rfl (o_mv rfl) ?_
    refine a_op rfl (o_mv rfl) ?_
    refine a_op rfl ((by first | exact o_fa tf89_2 rfl rfl | exact o_fap tf89_2 rfl rfl)) ?_
    refine a_op rfl ((by first | exact o_ld tg3 rfl rfl | exact o_ldp tg3 rfl rfl rfl rfl)) ?_
    refine a_op rfl (o_bd tz75 rfl tp75 rfl rfl) ?_
    refine a_op rfl (o_bs tE68 (by decide) rfl rfl rfl) ?_
    refine a_op rfl (o_ap tE68 rfl rfl (by simp [firstL_len] <;> omega) rfl rfl rfl (by simp [firstL_len]; omega) (by simp [firstL_len]; omega) rfl rfl rfl rfl) ?_
    refine a_op rfl (o_as rfl) ?_
    refine a_nil ?_
    refine bq_n ?_
    refine tq_n ?_
    refine w_heq (H1 := [.var (planC b p), .var [.raw (.slice none 0 0), .raw (.slice none 0 0), .raw (.slice none 0 0), .raw (.slice none 0 0), .raw (.slice none 0 0), .raw (.slice none 0 0), .raw (.slice none 0 0), .raw (.slice none 0 0), .raw (.slice none 0 0), .raw (.slice none 0 0), .raw (.slice none 0 0)], .mapo (mpG itemAV (mkM (·.id) l)), .vec 1 1 ((l.map (·.id)).map intAV), .mapo (mpG seatAV (mkM (·.stop) p.seats)), .vec 2 (i + 1) (((firstL p l).take i).map feedAV ++ [feedAV ⟨(l.map (·.id))[i], -1⟩]), .var (seatAV ⟨((stOf p (itmOf l (l.map (·.id))[i]).stop).getD s0R).stop, ((stOf p (itmOf l (l.map (·.id))[i]).stop).getD s0R).vol, -1, ((stOf p (itmOf l (l.map (·.id))[i]).stop).getD s0R).snd⟩).cells]) rfl ?_
    refine w_view [(1, .raw (.int .i64 sw)), (3, .ptr 0 0), (6, .ptr 1 0), (10, .mp 2), (14, .mp 4), (17, .slo 5 (i + 1) 0 (i + 1)), (18, .raw (.slice none 0 0)), (85, .slo 3 1 0 l.length), (86, .raw (.int .i64 ((l.length : Nat) : Int))), (87, .raw (.int .i64 ((i : Nat) : Int)))] [.var (planC b p), .var [.raw (.slice none 0 0), .raw (.slice none 0 0), .raw (.slice none 0 0), .raw (.slice none 0 0), .raw (.slice none 0 0), .raw (.slice none 0 0), .raw (.slice none 0 0), .raw (.slice none 0 0), .raw (.slice none 0 0), .raw (.slice none 0 0), .raw (.slice none 0 0)], .mapo (mpG itemAV (mkM (·.id) l)), .vec 1 1 ((l.map (·.id)).map intAV), .mapo (mpG seatAV (mkM (·.stop) p.seats)), .vec 2 (i + 1) (((firstL p l).take i).map feedAV ++ [feedAV ⟨(l.map (·.id))[i], -1⟩])] 6 rfl (Nat.le_of_ble_eq_true rfl) (Nat.le_of_ble_eq_true rfl) ⟨⟨_, rfl, (by first | exact .mpK (Nat.le_of_ble_eq_true rfl) | exact .sloK (Nat.le_of_ble_eq_true rfl) | exact .ptrK (Nat.le_of_ble_eq_true rfl) | exact rs_pur (by simp) rfl)⟩, ⟨_, rfl, (by first | exact .mpK (Nat.le_of_ble_eq_true rfl) | exact .sloK (Nat.le_of_ble_eq_true rfl) | exact .ptrK (Nat.le_of_ble_eq_true rfl) | exact rs_pur (by simp) rfl)⟩, ⟨_, rfl, (by first | exact .mpK (Nat.le_of_ble_eq_true rfl) | exact .sloK (Nat.le_of_ble_eq_true rfl) | exact .ptrK (Nat.le_of_ble_eq_true rfl) | exact rs_pur (by simp) rfl)⟩, ⟨_, rfl, (by first | exact .mpK (Nat.le_of_ble_eq_true rfl) | exact .sloK (Nat.le_of_ble_eq_true rfl) | exact .ptrK (Nat.le_of_ble_eq_true rfl) | exact rs_pur (by simp) rfl)⟩, ⟨_, rfl, (by first | exact .mpK (Nat.le_of_ble_eq_true rfl) | exact .sloK (Nat.le_of_ble_eq_true rfl) | exact .ptrK (Nat.le_of_ble_eq_true rfl) | exact rs_pur (by simp) rfl)⟩, ⟨_, rfl, (by first | exact .mpK (Nat.le_of_ble_eq_true rfl) | exact .sloK (Nat.le_of_ble_eq_true rfl) | exact .ptrK (Nat.le_of_ble_eq_true rfl) | exact rs_pur (by simp) rfl)⟩, ⟨_, rfl, (by first | exact .mpK (Nat.le_of_ble_eq_true rfl) | exact .sloK (Nat.le_of_ble_eq_true rfl) | exact .ptrK (Nat.le_of_ble_eq_true rfl) | exact rs_pur (by simp) rfl)⟩, ⟨_, rfl, (by first | exact .mpK (Nat.le_of_ble_eq_true rfl) | exact .sloK (Nat.le_of_ble_eq_true rfl) | exact .ptrK (Nat.le_of_ble_eq_true rfl) | exact rs_pur (by simp) rfl)⟩, ⟨_, rfl, (by first | exact .mpK (Nat.le_of_ble_eq_true rfl) | exact .sloK (Nat.le_of_ble_eq_true rfl) | exact .ptrK (Nat.le_of_ble_eq_true rfl) | exact rs_pur (by simp) rfl)⟩, ⟨_, rfl, (by first | exact .mpK (Nat.le_of_ble_eq_true rfl) | exact .sloK (Nat.le_of_ble_eq_true rfl) | exact .ptrK (Nat.le_of_ble_eq_true rfl) | exact rs_pur (by simp) rfl)⟩, trivial⟩ ⟨ors_var ⟨rs_pur (by simp) rfl, rs_pur (by simp) rfl, rs_pur (by simp) rfl, rs_pur (by simp) rfl, trivial⟩, ors_var ⟨rs_pur (by simp) rfl, rs_pur (by simp) rfl, rs_pur (by simp) rfl, rs_pur (by simp) rfl, rs_pur (by simp) rfl, rs_pur (by simp) rfl, rs_pur (by simp) rfl, rs_pur (by simp) rfl, rs_pur (by simp) rfl, rs_pur (by simp) rfl, rs_pur (by simp) rfl, trivial⟩, ors_mpG (fun x => by simp) _, ors_vec (pu_int _), ors_mpG (fun x => by simp) _, ors_vec (pu_feed1 _ _), trivial⟩ ?_
    refine w_reg (l := r26_30.toList) rfl r26_30_ok ?_
    refine a_op rfl (o_add rfl rfl (by simp only [klo, khi]; omega)) ?_
    refine a_op rfl (o_mv rfl) ?_
    refine a_nil ?_
    refine tq_n ?_
    exact ⟨i + 1, ⟨by omega, by omega⟩, ⟨(by first | exact sub_int rfl (by omega) | rfl), (by first | exact sub_int rfl (by omega) | rfl), (by first | exact sub_int rfl (by omega) | rfl), (by first | exact sub_int rfl (by omega) | rfl), (by first | exact sub_int rfl (by omega) | rfl), (by first | exact sub_int rfl (by omega) | rfl), (by first | exact sub_int rfl (by omega) | rfl), (by first | exact sub_int rfl (by omega) | rfl), (by first | exact sub_int rfl (by omega) | rfl), (by first | exact sub_int rfl (by omega) | rfl), trivial⟩, by rw [firstL_succ hii (v := -1) (by simp_all [feed1])]; simp only [List.map_append, List.map_cons, List.map_nil]⟩
  refine a_nil ?_
  refine tq_n ?_
  refine awp_seq ?_
  refine w_false rfl ?_
  refine awp_exit ?_
  refine tq_x ?_
  refine tq_x ?_
  refine bq_hit ?_
  refine tq_n ?_
  refine awp_seq ?_
  refine w_view [(1, .raw (.int .i64 sw)), (3, .ptr 0 0), (6, .ptr 1 0), (10, .mp 2), (14, .mp 4), (17, .sl 2 false ((firstL p l).map feedAV)), (18, .raw (.slice none 0 0))] [.var (planC b p), .var [.raw (.slice none 0 0), .raw (.slice none 0 0), .raw (.slice none 0 0), .raw (.slice none 0 0), .raw (.slice none 0 0), .raw (.slice none 0 0), .raw (.slice none 0 0), .raw (.slice none 0 0), .raw (.slice none 0 0), .raw (.slice none 0 0), .raw (.slice none 0 0)], .mapo (mpG itemAV (mkM (·.id) l)), .vec 1 1 ((l.map (·.id)).map intAV), .mapo (mpG seatAV (mkM (·.stop) p.seats))] 5 rfl (Nat.le_of_ble_eq_true rfl) (Nat.le_of_ble_eq_true rfl) ⟨⟨_, rfl, (by first | exact .mpK (Nat.le_of_ble_eq_true rfl) | exact .sloK (Nat.le_of_ble_eq_true rfl) | exact .ptrK (Nat.le_of_ble_eq_true rfl) | exact rs_pur (by simp) rfl | exact rs_slo (Nat.lt_irrefl _) rfl (by simp [firstL_len]; omega) (pu_feed _) (by rw [List.take_of_length_le (by rw [firstL_len]; omega)]))⟩, ⟨_, rfl, (by first | exact .mpK (Nat.le_of_ble_eq_true rfl) | exact .sloK (Nat.le_of_ble_eq_true rfl) | exact .ptrK (Nat.le_of_ble_eq_true rfl) | exact rs_pur (by simp) rfl | exact rs_slo (Nat.lt_irrefl _) rfl (by simp [firstL_len]; omega) (pu_feed _) (by rw [List.take_of_length_le (by rw [firstL_len]; omega)]))⟩, ⟨_, rfl, (by first | exact .mpK (Nat.le_of_ble_eq_true rfl) | exact .sloK (Nat.le_of_ble_eq_true rfl) | exact .ptrK (Nat.le_of_ble_eq_true rfl) | exact rs_pur (by simp) rfl | exact rs_slo (Nat.lt_irrefl _) rfl (by simp [firstL_len]; omega) (pu_feed _) (by rw [List.take_of_length_le (by rw [firstL_len]; omega)]))⟩, ⟨_, rfl, (by first | exact .mpK (Nat.le_of_ble_eq_true rfl) | exact .sloK (Nat.le_of_ble_eq_true rfl) | exact .ptrK (Nat.le_of_ble_eq_true rfl) | exact rs_pur (by simp) rfl | exact rs_slo (Nat.lt_irrefl _) rfl (by simp [firstL_len]; omega) (pu_feed _) (by rw [List.take_of_length_le (by rw [firstL_len]; omega)]))⟩, ⟨_, rfl, (by first | exact .mpK (Nat.le_of_ble_eq_true rfl) | exact .sloK (Nat.le_of_ble_eq_true rfl) | exact .ptrK (Nat.le_of_ble_eq_true rfl) | exact rs_pur (by simp) rfl | exact rs_slo (Nat.lt_irrefl _) rfl (by simp [firstL_len]; omega) (pu_feed _) (by rw [List.take_of_length_le (by rw [firstL_len]; omega)]))⟩, ⟨_, rfl, (by first | exact .mpK (Nat.le_of_ble_eq_true rfl) | exact .sloK (Nat.le_of_ble_eq_true rfl) | exact .ptrK (Nat.le_of_ble_eq_true rfl) | exact rs_pur (by simp) rfl | exact rs_slo (Nat.lt_irrefl _) rfl (by simp [firstL_len]; omega) (pu_feed _) (by rw [List.take_of_length_le (by rw [firstL_len]; omega)]))⟩, ⟨_, rfl, (by first | exact .mpK (Nat.le_of_ble_eq_true rfl) | exact .sloK (Nat.le_of_ble_eq_true rfl) | exact .ptrK (Nat.le_of_ble_eq_true rfl) | exact rs_pur (by simp) rfl | exact rs_slo (Nat.lt_irrefl _) rfl (by simp [firstL_len]; omega) (pu_feed _) (by rw [List.take_of_length_le (by rw [firstL_len]; omega)]))⟩, trivial⟩ ⟨ors_var ⟨rs_pur (by simp) rfl, rs_pur (by simp) rfl, rs_pur (by simp) rfl, rs_pur (by simp) rfl, trivial⟩, ors_var ⟨rs_pur (by simp) rfl, rs_pur (by simp) rfl, rs_pur (by simp) rfl, rs_pur (by simp) rfl, rs_pur (by simp) rfl, rs_pur (by simp) rfl, rs_pur (by simp) rfl, rs_pur (by simp) rfl, rs_pur (by simp) rfl, rs_pur (by simp) rfl, rs_pur (by simp) rfl, trivial⟩, ors_mpG (fun x => by simp) _, ors_vec (pu_int _), ors_mpG (fun x => by simp) _, trivial⟩ ?_
  refine w_reg (l := r26_31.toList) rfl r26_31_ok ?_
  refine a_op rfl ((by first | exact o_fa tf51_0 rfl rfl | exact o_fap tf51_0 rfl rfl)) ?_
  refine a_op rfl ((by first | exact o_ld tg34 rfl rfl | exact o_ldp tg34 rfl rfl rfl rfl)) ?_
  refine a_op rfl (o_mv rfl) ?_
  refine a_op rfl (o_mv rfl) ?_
  have hA := play_flat_le (sw := sw) (by omega) hck.r (firstL_in hck l)
  rw [show playF p.caps sw (firstL p l) = (twoA p sw l) from rfl, firstL_len] at hA
  change (leftL p sw l).length ≤ _ ∧ _ at hA
  refine a_pure rfl rfl rfl cb75 (play_ok _ _ (rightF_le hck.r) _ (by omega) (by omega) _ (firstL p l) (by rw [firstL_len]; omega) (firstL_in hck l)) ?_
  refine a_op rfl (o_bd tz62 rfl tp62 rfl rfl) ?_
  refine a_op rfl (o_al (N := 5) tz62 rfl rfl rfl) ?_
  refine a_op0 rfl (o_st (N := 10) tn62 rfl rfl rfl rfl rfl) ?_
  refine a_nil ?_
  refine tq_n ?_
  refine awp_seq ?_
  refine awp_seq ?_
  refine w_own (q := 18) (z := 2) (N := 6) (by decide) rfl rfl rfl ?_
  refine w_reg (l := r26_32.toList) rfl r26_32_ok ?_
  refine a_op rfl ((by first | exact o_fa tf62_0 rfl rfl | exact o_fap tf62_0 rfl rfl)) ?_
  refine a_op rfl ((by first | exact o_ldg tg60 tn60 rfl rfl | exact o_ldpg tg60 tn60 rfl rfl rfl rfl)) ?_
  have hcl := rightF_le hck.r
  refine a_pure rfl rfl rfl cb31 (leave_ok (twoA p sw l) (by omega) (by show (leftL p sw l).length ≤ _; omega)) ?_
  refine a_op rfl (o_len rfl rfl (by first | exact List.length_map .. | rfl) tl34) ?_
  refine a_op rfl (o_mv rfl) ?_
  refine a_nil ?_
  refine tq_n ?_
  refine awp_block ?_
  refine w_loop (fun i : Nat => i ≤ (leftL p sw l).length) (fun i => [(1, .raw (.int .i64 sw)), (3, .ptr 0 0), (6, .ptr 1 0), (10, .mp 2), (14, .mp 4), (18, .slo 6 i 0 i), (23, .ptr 5 0), (126, rowAV (leftL p sw l)), (127, .raw (.int .i64 (((leftL p sw l).length : Nat) : Int))), (128, .raw (.int .i64 ((i : Nat) : Int)))]) (fun i => [.var (planC b p), .var [.raw (.slice none 0 0), .raw (.slice none 0 0), .raw (.slice none 0 0), .raw (.slice none 0 0), .raw (.slice none 0 0), .raw (.slice none 0 0), .raw (.slice none 0 0), .raw (.slice none 0 0), .raw (.slice none 0 0), .raw (.slice none 0 0), .raw (.slice none 0 0)], .mapo (mpG itemAV (mkM (·.id) l)), .vec 1 1 ((l.map (·.id)).map intAV), .mapo (mpG seatAV (mkM (·.stop) p.seats)), .var [.sl 1 false ((twoA p sw l).rows.map rowAV), rowAV (twoA p sw l).swept, rowAV (twoA p sw l).over, rowAV (twoA p sw l).rej, .sl 3 false ((twoA p sw l).ev.map evAV), .raw (.slice none 0 0), .raw (.slice none 0 0), .raw (.slice none 0 0), .raw (.slice none 0 0), .raw (.slice none 0 0), .raw (.slice none 0 0)], .vec 2 i (((secondL p sw l).take i).map feedAV)]) (fun i => (leftL p sw l).length - i) (0) (by simp) ⟨(by first | exact sub_int rfl (by omega) | rfl), (by first | exact sub_int rfl (by omega) | rfl), (by first | exact sub_int rfl (by omega) | rfl), (by first | exact sub_int rfl (by omega) | rfl), (by first | exact sub_int rfl (by omega) | rfl), (by first | exact sub_int rfl (by omega) | rfl), (by first | exact sub_int rfl (by omega) | rfl), (by first | exact sub_int rfl (by omega) | rfl), (by first | exact sub_int rfl (by omega) | rfl), (by first | exact sub_int rfl (by omega) | rfl), trivial⟩ rfl ?_
  intro i hp
  unfold b26_3
  refine awp_seq ?_
  refine w_reg (l := r26_33.toList) rfl r26_33_ok ?_
  refine a_if rfl (o_lt rfl rfl) (fun h21 => ?_) (fun h22 => ?_)
  · refine a_nil ?_
    refine tq_n ?_
    refine awp_seq ?_
    refine w_true rfl ?_
    refine awp_skip ?_
    refine tq_n ?_
    refine awp_seq ?_
    refine awp_block ?_
    refine awp_seq ?_
    have hi : i < (leftL p sw l).length := by omega
    refine w_reg (l := r26_34.toList) rfl r26_34_ok ?_
    refine a_op rfl (o_ix te34 tn3 rfl rfl rfl (ixm _ _ _ hi)) ?_
    refine a_op rfl ((by first | exact o_ld tg3 rfl rfl | exact o_ldp tg3 rfl rfl rfl rfl)) ?_
    refine a_op rfl (o_as rfl) ?_
    refine a_nil ?_
    refine tq_n ?_
    refine awp_seq ?_
    refine w_reg (l := r26_35.toList) rfl r26_35_ok ?_
    refine a_op rfl (o_mv rfl) ?_
    refine a_op rfl (o_mv rfl) ?_
    refine a_op rfl (o_mv rfl) ?_
    refine a_op rfl (o_lkG0 (d := i0R) mt186 k3 mz45 vz45 rfl rfl rfl) ?_
    rw [show (mget (mkM (·.id) l) (leftL p sw l)[i]).getD i0R = itmOf l (leftL p sw l)[i] from rfl]
    refine a_op rfl (o_fd tf45_1 tn3 tg3 rfl rfl) ?_
    refine a_op rfl (o_lkG0 (d := s0R) mt187 k3 mz89 vz89 rfl rfl rfl) ?_
    rw [show mget (mkM (·.stop) p.seats) (itmOf l (leftL p sw l)[i]).stop = stOf p (itmOf l (leftL p sw l)[i]).stop from rfl]
    refine a_op rfl (o_al (N := 7) tz89 rfl rfl rfl) ?_
    refine a_op0 rfl (o_st (N := 3) tn89 rfl rfl rfl rfl rfl) ?_
    refine a_nil ?_
    refine tq_n ?_
    refine awp_seq ?_
    refine awp_seq ?_
    refine w_reg (l := r26_36.toList) rfl r26_36_ok ?_
    refine a_op rfl (o_mv rfl) ?_
    refine a_op rfl (o_mv rfl) ?_
    refine a_op rfl (o_lkG0 (d := i0R) mt186 k3 mz45 vz45 rfl rfl rfl) ?_
    rw [show (mget (mkM (·.id) l) (leftL p sw l)[i]).getD i0R = itmOf l (leftL p sw l)[i] from rfl]
    refine a_ifb rfl (o_fd tf45_3 tn4 tg4 rfl rfl) (fun h23 => ?_) (fun h24 => ?_)
    · refine a_op rfl (o_ntt rfl) ?_
      refine a_nil ?_
      refine tq_n ?_
      refine w_false rfl ?_
      refine awp_skip ?_
      refine tq_n ?_
      refine w_reg (l := r26_38.toList) rfl r26_38_ok ?_
      refine a_op rfl (o_mv rfl) ?_
      refine a_op rfl (o_mv rfl) ?_
      refine a_op rfl ((by first | exact o_fa tf89_3 rfl rfl | exact o_fap tf89_3 rfl rfl)) ?_
      refine a_op rfl ((by first | exact o_ld tg3 rfl rfl | exact o_ldp tg3 rfl rfl rfl rfl)) ?_
      refine a_op rfl (o_bd tz75 rfl tp75 rfl rfl) ?_
      refine a_op rfl (o_bs tE68 (by decide) rfl rfl rfl) ?_
      refine a_op rfl (o_ap tE68 rfl rfl (by simp [secondL] <;> omega) rfl rfl rfl (by simp [secondL]; omega) (by simp [secondL]; omega) rfl rfl rfl rfl) ?_
      refine a_op rfl (o_as rfl) ?_
      refine a_nil ?_
      refine bq_n ?_
      refine tq_n ?_
      refine w_heq (H1 := [.var (planC b p), .var [.raw (.slice none 0 0), .raw (.slice none 0 0), .raw (.slice none 0 0), .raw (.slice none 0 0), .raw (.slice none 0 0), .raw (.slice none 0 0), .raw (.slice none 0 0), .raw (.slice none 0 0), .raw (.slice none 0 0), .raw (.slice none 0 0), .raw (.slice none 0 0)], .mapo (mpG itemAV (mkM (·.id) l)), .vec 1 1 ((l.map (·.id)).map intAV), .mapo (mpG seatAV (mkM (·.stop) p.seats)), .var [.sl 1 false ((twoA p sw l).rows.map rowAV), rowAV (twoA p sw l).swept, rowAV (twoA p sw l).over, rowAV (twoA p sw l).rej, .sl 3 false ((twoA p sw l).ev.map evAV), .raw (.slice none 0 0), .raw (.slice none 0 0), .raw (.slice none 0 0), .raw (.slice none 0 0), .raw (.slice none 0 0), .raw (.slice none 0 0)], .vec 2 (i + 1) (((secondL p sw l).take i).map feedAV ++ [feedAV ⟨(leftL p sw l)[i], ((stOf p (itmOf l (leftL p sw l)[i]).stop).getD s0R).snd⟩]), .var (seatAV ⟨((stOf p (itmOf l (leftL p sw l)[i]).stop).getD s0R).stop, ((stOf p (itmOf l (leftL p sw l)[i]).stop).getD s0R).vol, ((stOf p (itmOf l (leftL p sw l)[i]).stop).getD s0R).fst, ((stOf p (itmOf l (leftL p sw l)[i]).stop).getD s0R).snd⟩).cells]) rfl ?_
      refine w_view [(1, .raw (.int .i64 sw)), (3, .ptr 0 0), (6, .ptr 1 0), (10, .mp 2), (14, .mp 4), (18, .slo 6 (i + 1) 0 (i + 1)), (23, .ptr 5 0), (126, rowAV (leftL p sw l)), (127, .raw (.int .i64 (((leftL p sw l).length : Nat) : Int))), (128, .raw (.int .i64 ((i : Nat) : Int)))] [.var (planC b p), .var [.raw (.slice none 0 0), .raw (.slice none 0 0), .raw (.slice none 0 0), .raw (.slice none 0 0), .raw (.slice none 0 0), .raw (.slice none 0 0), .raw (.slice none 0 0), .raw (.slice none 0 0), .raw (.slice none 0 0), .raw (.slice none 0 0), .raw (.slice none 0 0)], .mapo (mpG itemAV (mkM (·.id) l)), .vec 1 1 ((l.map (·.id)).map intAV), .mapo (mpG seatAV (mkM (·.stop) p.seats)), .var [.sl 1 false ((twoA p sw l).rows.map rowAV), rowAV (twoA p sw l).swept, rowAV (twoA p sw l).over, rowAV (twoA p sw l).rej, .sl 3 false ((twoA p sw l).ev.map evAV), .raw (.slice none 0 0), .raw (.slice none 0 0), .raw (.slice none 0 0), .raw (.slice none 0 0), .raw (.slice none 0 0), .raw (.slice none 0 0)], .vec 2 (i + 1) (((secondL p sw l).take i).map feedAV ++ [feedAV ⟨(leftL p sw l)[i], ((stOf p (itmOf l (leftL p sw l)[i]).stop).getD s0R).snd⟩])] 7 rfl (Nat.le_of_ble_eq_true rfl) (Nat.le_of_ble_eq_true rfl) ⟨⟨_, rfl, (by first | exact .mpK (Nat.le_of_ble_eq_true rfl) | exact .sloK (Nat.le_of_ble_eq_true rfl) | exact .ptrK (Nat.le_of_ble_eq_true rfl) | exact rs_pur (by simp) rfl)⟩, ⟨_, rfl, (by first | exact .mpK (Nat.le_of_ble_eq_true rfl) | exact .sloK (Nat.le_of_ble_eq_true rfl) | exact .ptrK (Nat.le_of_ble_eq_true rfl) | exact rs_pur (by simp) rfl)⟩, ⟨_, rfl, (by first | exact .mpK (Nat.le_of_ble_eq_true rfl) | exact .sloK (Nat.le_of_ble_eq_true rfl) | exact .ptrK (Nat.le_of_ble_eq_true rfl) | exact rs_pur (by simp) rfl)⟩, ⟨_, rfl, (by first | exact .mpK (Nat.le_of_ble_eq_true rfl) | exact .sloK (Nat.le_of_ble_eq_true rfl) | exact .ptrK (Nat.le_of_ble_eq_true rfl) | exact rs_pur (by simp) rfl)⟩, ⟨_, rfl, (by first | exact .mpK (Nat.le_of_ble_eq_true rfl) | exact .sloK (Nat.le_of_ble_eq_true rfl) | exact .ptrK (Nat.le_of_ble_eq_true rfl) | exact rs_pur (by simp) rfl)⟩, ⟨_, rfl, (by first | exact .mpK (Nat.le_of_ble_eq_true rfl) | exact .sloK (Nat.le_of_ble_eq_true rfl) | exact .ptrK (Nat.le_of_ble_eq_true rfl) | exact rs_pur (by simp) rfl)⟩, ⟨_, rfl, (by first | exact .mpK (Nat.le_of_ble_eq_true rfl) | exact .sloK (Nat.le_of_ble_eq_true rfl) | exact .ptrK (Nat.le_of_ble_eq_true rfl) | exact rs_pur (by simp) rfl)⟩, ⟨_, rfl, (by first | exact .mpK (Nat.le_of_ble_eq_true rfl) | exact .sloK (Nat.le_of_ble_eq_true rfl) | exact .ptrK (Nat.le_of_ble_eq_true rfl) | exact rs_pur (by simp) rfl)⟩, ⟨_, rfl, (by first | exact .mpK (Nat.le_of_ble_eq_true rfl) | exact .sloK (Nat.le_of_ble_eq_true rfl) | exact .ptrK (Nat.le_of_ble_eq_true rfl) | exact rs_pur (by simp) rfl)⟩, ⟨_, rfl, (by first | exact .mpK (Nat.le_of_ble_eq_true rfl) | exact .sloK (Nat.le_of_ble_eq_true rfl) | exact .ptrK (Nat.le_of_ble_eq_true rfl) | exact rs_pur (by simp) rfl)⟩, trivial⟩ ⟨ors_var ⟨rs_pur (by simp) rfl, rs_pur (by simp) rfl, rs_pur (by simp) rfl, rs_pur (by simp) rfl, trivial⟩, ors_var ⟨rs_pur (by simp) rfl, rs_pur (by simp) rfl, rs_pur (by simp) rfl, rs_pur (by simp) rfl, rs_pur (by simp) rfl, rs_pur (by simp) rfl, rs_pur (by simp) rfl, rs_pur (by simp) rfl, rs_pur (by simp) rfl, rs_pur (by simp) rfl, rs_pur (by simp) rfl, trivial⟩, ors_mpG (fun x => by simp) _, ors_vec (pu_int _), ors_mpG (fun x => by simp) _, ors_var ⟨rs_pur (by simp) rfl, rs_pur (by simp) rfl, rs_pur (by simp) rfl, rs_pur (by simp) rfl, rs_pur (by simp) rfl, rs_pur (by simp) rfl, rs_pur (by simp) rfl, rs_pur (by simp) rfl, rs_pur (by simp) rfl, rs_pur (by simp) rfl, rs_pur (by simp) rfl, trivial⟩, ors_vec (pu_feed1 _ _), trivial⟩ ?_
      refine w_reg (l := r26_39.toList) rfl r26_39_ok ?_
      refine a_op rfl (o_add rfl rfl (by simp only [klo, khi]; omega)) ?_
      refine a_op rfl (o_mv rfl) ?_
      refine a_nil ?_
      refine tq_n ?_
      exact ⟨i + 1, ⟨by omega, by omega⟩, ⟨(by first | exact sub_int rfl (by omega) | rfl), (by first | exact sub_int rfl (by omega) | rfl), (by first | exact sub_int rfl (by omega) | rfl), (by first | exact sub_int rfl (by omega) | rfl), (by first | exact sub_int rfl (by omega) | rfl), (by first | exact sub_int rfl (by omega) | rfl), (by first | exact sub_int rfl (by omega) | rfl), (by first | exact sub_int rfl (by omega) | rfl), (by first | exact sub_int rfl (by omega) | rfl), (by first | exact sub_int rfl (by omega) | rfl), trivial⟩, by rw [secondL_succ hi (v := ((stOf p (itmOf l (leftL p sw l)[i]).stop).getD s0R).snd) (by simp_all [feed2])]; simp only [List.map_append, List.map_cons, List.map_nil]⟩
    refine a_op rfl (o_ntf rfl) ?_
    refine a_nil ?_
    refine tq_n ?_
    refine w_true rfl ?_
    refine w_reg (l := r26_37.toList) rfl r26_37_ok ?_
    refine a_op rfl ((by first | exact o_fa tf89_3 rfl rfl | exact o_fap tf89_3 rfl rfl)) ?_
    refine a_op0 rfl (o_st (N := 0) tn3 rfl rfl rfl rfl rfl) ?_
    refine a_nil ?_
    refine tq_n ?_
    refine w_reg (l := r26_38.toList) rfl r26_38_ok ?_
    refine a_op rfl (o_mv rfl) ?_
    refine a_op rfl (o_mv rfl) ?_
    refine a_op rfl ((by first | exact o_fa tf89_3 rfl rfl | exact o_fap tf89_3 rfl rfl)) ?_
    refine a_op rfl ((by first | exact o_ld tg3 rfl rfl | exact o_ldp tg3 rfl rfl rfl rfl)) ?_
    refine a_op rfl (o_bd tz75 rfl tp75 rfl rfl) ?_
    refine a_op rfl (o_bs tE68 (by decide) rfl rfl rfl) ?_
    refine a_op rfl (o_ap tE68 rfl rfl (by simp [secondL] <;> omega) rfl rfl rfl (by simp [secondL]; omega) (by simp [secondL]; omega) rfl rfl rfl rfl) ?_
    refine a_op rfl (o_as rfl) ?_
    refine a_nil ?_
    refine bq_n ?_
    refine tq_n ?_
    refine w_heq (H1 := [.var (planC b p), .var [.raw (.slice none 0 0), .raw (.slice none 0 0), .raw (.slice none 0 0), .raw (.slice none 0 0), .raw (.slice none 0 0), .raw (.slice none 0 0), .raw (.slice none 0 0), .raw (.slice none 0 0), .raw (.slice none 0 0), .raw (.slice none 0 0), .raw (.slice none 0 0)], .mapo (mpG itemAV (mkM (·.id) l)), .vec 1 1 ((l.map (·.id)).map intAV), .mapo (mpG seatAV (mkM (·.stop) p.seats)), .var [.sl 1 false ((twoA p sw l).rows.map rowAV), rowAV (twoA p sw l).swept, rowAV (twoA p sw l).over, rowAV (twoA p sw l).rej, .sl 3 false ((twoA p sw l).ev.map evAV), .raw (.slice none 0 0), .raw (.slice none 0 0), .raw (.slice none 0 0), .raw (.slice none 0 0), .raw (.slice none 0 0), .raw (.slice none 0 0)], .vec 2 (i + 1) (((secondL p sw l).take i).map feedAV ++ [feedAV ⟨(leftL p sw l)[i], -1⟩]), .var (seatAV ⟨((stOf p (itmOf l (leftL p sw l)[i]).stop).getD s0R).stop, ((stOf p (itmOf l (leftL p sw l)[i]).stop).getD s0R).vol, ((stOf p (itmOf l (leftL p sw l)[i]).stop).getD s0R).fst, -1⟩).cells]) rfl ?_
    refine w_view [(1, .raw (.int .i64 sw)), (3, .ptr 0 0), (6, .ptr 1 0), (10, .mp 2), (14, .mp 4), (18, .slo 6 (i + 1) 0 (i + 1)), (23, .ptr 5 0), (126, rowAV (leftL p sw l)), (127, .raw (.int .i64 (((leftL p sw l).length : Nat) : Int))), (128, .raw (.int .i64 ((i : Nat) : Int)))] [.var (planC b p), .var [.raw (.slice none 0 0), .raw (.slice none 0 0), .raw (.slice none 0 0), .raw (.slice none 0 0), .raw (.slice none 0 0), .raw (.slice none 0 0), .raw (.slice none 0 0), .raw (.slice none 0 0), .raw (.slice none 0 0), .raw (.slice none 0 0), .raw (.slice none 0 0)], .mapo (mpG itemAV (mkM (·.id) l)), .vec 1 1 ((l.map (·.id)).map intAV), .mapo (mpG seatAV (mkM (·.stop) p.seats)), .var [.sl 1 false ((twoA p sw l).rows.map rowAV), rowAV (twoA p sw l).swept, rowAV (twoA p sw l).over, rowAV (twoA p sw l).rej, .sl 3 false ((twoA p sw l).ev.map evAV), .raw (.slice none 0 0), .raw (.slice none 0 0), .raw (.slice none 0 0), .raw (.slice none 0 0), .raw (.slice none 0 0), .raw (.slice none 0 0)], .vec 2 (i + 1) (((secondL p sw l).take i).map feedAV ++ [feedAV ⟨(leftL p sw l)[i], -1⟩])] 7 rfl (Nat.le_of_ble_eq_true rfl) (Nat.le_of_ble_eq_true rfl) ⟨⟨_, rfl, (by first | exact .mpK (Nat.le_of_ble_eq_true rfl) | exact .sloK (Nat.le_of_ble_eq_true rfl) | exact .ptrK (Nat.le_of_ble_eq_true rfl) | exact rs_pur (by simp) rfl)⟩, ⟨_, rfl, (by first | exact .mpK (Nat.le_of_ble_eq_true rfl) | exact .sloK (Nat.le_of_ble_eq_true rfl) | exact .ptrK (Nat.le_of_ble_eq_true rfl) | exact rs_pur (by simp) rfl)⟩, ⟨_, rfl, (by first | exact .mpK (Nat.le_of_ble_eq_true rfl) | exact .sloK (Nat.le_of_ble_eq_true rfl) | exact .ptrK (Nat.le_of_ble_eq_true rfl) | exact rs_pur (by simp) rfl)⟩, ⟨_, rfl, (by first | exact .mpK (Nat.le_of_ble_eq_true rfl) | exact .sloK (Nat.le_of_ble_eq_true rfl) | exact .ptrK (Nat.le_of_ble_eq_true rfl) | exact rs_pur (by simp) rfl)⟩, ⟨_, rfl, (by first | exact .mpK (Nat.le_of_ble_eq_true rfl) | exact .sloK (Nat.le_of_ble_eq_true rfl) | exact .ptrK (Nat.le_of_ble_eq_true rfl) | exact rs_pur (by simp) rfl)⟩, ⟨_, rfl, (by first | exact .mpK (Nat.le_of_ble_eq_true rfl) | exact .sloK (Nat.le_of_ble_eq_true rfl) | exact .ptrK (Nat.le_of_ble_eq_true rfl) | exact rs_pur (by simp) rfl)⟩, ⟨_, rfl, (by first | exact .mpK (Nat.le_of_ble_eq_true rfl) | exact .sloK (Nat.le_of_ble_eq_true rfl) | exact .ptrK (Nat.le_of_ble_eq_true rfl) | exact rs_pur (by simp) rfl)⟩, ⟨_, rfl, (by first | exact .mpK (Nat.le_of_ble_eq_true rfl) | exact .sloK (Nat.le_of_ble_eq_true rfl) | exact .ptrK (Nat.le_of_ble_eq_true rfl) | exact rs_pur (by simp) rfl)⟩, ⟨_, rfl, (by first | exact .mpK (Nat.le_of_ble_eq_true rfl) | exact .sloK (Nat.le_of_ble_eq_true rfl) | exact .ptrK (Nat.le_of_ble_eq_true rfl) | exact rs_pur (by simp) rfl)⟩, ⟨_, rfl, (by first | exact .mpK (Nat.le_of_ble_eq_true rfl) | exact .sloK (Nat.le_of_ble_eq_true rfl) | exact .ptrK (Nat.le_of_ble_eq_true rfl) | exact rs_pur (by simp) rfl)⟩, trivial⟩ ⟨ors_var ⟨rs_pur (by simp) rfl, rs_pur (by simp) rfl, rs_pur (by simp) rfl, rs_pur (by simp) rfl, trivial⟩, ors_var ⟨rs_pur (by simp) rfl, rs_pur (by simp) rfl, rs_pur (by simp) rfl, rs_pur (by simp) rfl, rs_pur (by simp) rfl, rs_pur (by simp) rfl, rs_pur (by simp) rfl, rs_pur (by simp) rfl, rs_pur (by simp) rfl, rs_pur (by simp) rfl, rs_pur (by simp) rfl, trivial⟩, ors_mpG (fun x => by simp) _, ors_vec (pu_int _), ors_mpG (fun x => by simp) _, ors_var ⟨rs_pur (by simp) rfl, rs_pur (by simp) rfl, rs_pur (by simp) rfl, rs_pur (by simp) rfl, rs_pur (by simp) rfl, rs_pur (by simp) rfl, rs_pur (by simp) rfl, rs_pur (by simp) rfl, rs_pur (by simp) rfl, rs_pur (by simp) rfl, rs_pur (by simp) rfl, trivial⟩, ors_vec (pu_feed1 _ _), trivial⟩ ?_
    refine w_reg (l := r26_39.toList) rfl r26_39_ok ?_
    refine a_op rfl (o_add rfl rfl (by simp only [klo, khi]; omega)) ?_
    refine a_op rfl (o_mv rfl) ?_
    refine a_nil ?_
    refine tq_n ?_
    exact ⟨i + 1, ⟨by omega, by omega⟩, ⟨(by first | exact sub_int rfl (by omega) | rfl), (by first | exact sub_int rfl (by omega) | rfl), (by first | exact sub_int rfl (by omega) | rfl), (by first | exact sub_int rfl (by omega) | rfl), (by first | exact sub_int rfl (by omega) | rfl), (by first | exact sub_int rfl (by omega) | rfl), (by first | exact sub_int rfl (by omega) | rfl), (by first | exact sub_int rfl (by omega) | rfl), (by first | exact sub_int rfl (by omega) | rfl), (by first | exact sub_int rfl (by omega) | rfl), trivial⟩, by rw [secondL_succ hi (v := -1) (by simp_all [feed2])]; simp only [List.map_append, List.map_cons, List.map_nil]⟩
  refine a_nil ?_
  refine tq_n ?_
  refine awp_seq ?_
  refine w_false rfl ?_
  refine awp_exit ?_
  refine tq_x ?_
  refine tq_x ?_
  refine bq_hit ?_
  refine tq_n ?_
  refine awp_seq ?_
  refine w_view [(1, .raw (.int .i64 sw)), (3, .ptr 0 0), (6, .ptr 1 0), (18, .sl 2 false ((secondL p sw l).map feedAV)), (23, .ptr 5 0)] [.var (planC b p), .var [.raw (.slice none 0 0), .raw (.slice none 0 0), .raw (.slice none 0 0), .raw (.slice none 0 0), .raw (.slice none 0 0), .raw (.slice none 0 0), .raw (.slice none 0 0), .raw (.slice none 0 0), .raw (.slice none 0 0), .raw (.slice none 0 0), .raw (.slice none 0 0)], .mapo (mpG itemAV (mkM (·.id) l)), .vec 1 1 ((l.map (·.id)).map intAV), .mapo (mpG seatAV (mkM (·.stop) p.seats)), .var [.sl 1 false ((twoA p sw l).rows.map rowAV), rowAV (twoA p sw l).swept, rowAV (twoA p sw l).over, rowAV (twoA p sw l).rej, .sl 3 false ((twoA p sw l).ev.map evAV), .raw (.slice none 0 0), .raw (.slice none 0 0), .raw (.slice none 0 0), .raw (.slice none 0 0), .raw (.slice none 0 0), .raw (.slice none 0 0)]] 6 rfl (Nat.le_of_ble_eq_true rfl) (Nat.le_of_ble_eq_true rfl) ⟨⟨_, rfl, (by first | exact .mpK (Nat.le_of_ble_eq_true rfl) | exact .sloK (Nat.le_of_ble_eq_true rfl) | exact .ptrK (Nat.le_of_ble_eq_true rfl) | exact rs_pur (by simp) rfl | exact rs_slo (Nat.lt_irrefl _) rfl (by simp [secondL]; omega) (pu_feed _) (by rw [List.take_of_length_le (by simp [secondL]; omega)]))⟩, ⟨_, rfl, (by first | exact .mpK (Nat.le_of_ble_eq_true rfl) | exact .sloK (Nat.le_of_ble_eq_true rfl) | exact .ptrK (Nat.le_of_ble_eq_true rfl) | exact rs_pur (by simp) rfl | exact rs_slo (Nat.lt_irrefl _) rfl (by simp [secondL]; omega) (pu_feed _) (by rw [List.take_of_length_le (by simp [secondL]; omega)]))⟩, ⟨_, rfl, (by first | exact .mpK (Nat.le_of_ble_eq_true rfl) | exact .sloK (Nat.le_of_ble_eq_true rfl) | exact .ptrK (Nat.le_of_ble_eq_true rfl) | exact rs_pur (by simp) rfl | exact rs_slo (Nat.lt_irrefl _) rfl (by simp [secondL]; omega) (pu_feed _) (by rw [List.take_of_length_le (by simp [secondL]; omega)]))⟩, ⟨_, rfl, (by first | exact .mpK (Nat.le_of_ble_eq_true rfl) | exact .sloK (Nat.le_of_ble_eq_true rfl) | exact .ptrK (Nat.le_of_ble_eq_true rfl) | exact rs_pur (by simp) rfl | exact rs_slo (Nat.lt_irrefl _) rfl (by simp [secondL]; omega) (pu_feed _) (by rw [List.take_of_length_le (by simp [secondL]; omega)]))⟩, ⟨_, rfl, (by first | exact .mpK (Nat.le_of_ble_eq_true rfl) | exact .sloK (Nat.le_of_ble_eq_true rfl) | exact .ptrK (Nat.le_of_ble_eq_true rfl) | exact rs_pur (by simp) rfl | exact rs_slo (Nat.lt_irrefl _) rfl (by simp [secondL]; omega) (pu_feed _) (by rw [List.take_of_length_le (by simp [secondL]; omega)]))⟩, trivial⟩ ⟨ors_var ⟨rs_pur (by simp) rfl, rs_pur (by simp) rfl, rs_pur (by simp) rfl, rs_pur (by simp) rfl, trivial⟩, ors_var ⟨rs_pur (by simp) rfl, rs_pur (by simp) rfl, rs_pur (by simp) rfl, rs_pur (by simp) rfl, rs_pur (by simp) rfl, rs_pur (by simp) rfl, rs_pur (by simp) rfl, rs_pur (by simp) rfl, rs_pur (by simp) rfl, rs_pur (by simp) rfl, rs_pur (by simp) rfl, trivial⟩, ors_mpG (fun x => by simp) _, ors_vec (pu_int _), ors_mpG (fun x => by simp) _, ors_var ⟨rs_pur (by simp) rfl, rs_pur (by simp) rfl, rs_pur (by simp) rfl, rs_pur (by simp) rfl, rs_pur (by simp) rfl, rs_pur (by simp) rfl, rs_pur (by simp) rfl, rs_pur (by simp) rfl, rs_pur (by simp) rfl, rs_pur (by simp) rfl, rs_pur (by simp) rfl, trivial⟩, trivial⟩ ?_
  refine w_reg (l := r26_40.toList) rfl r26_40_ok ?_
  refine a_op rfl ((by first | exact o_fa tf51_0 rfl rfl | exact o_fap tf51_0 rfl rfl)) ?_
  refine a_op rfl ((by first | exact o_ld tg34 rfl rfl | exact o_ldp tg34 rfl rfl rfl rfl)) ?_
  refine a_op rfl (o_mv rfl) ?_
  refine a_op rfl (o_mv rfl) ?_
  have hB := play_flat_le (sw := sw) (by omega) hck.r (secondL_in hck sw l)
  rw [show playF p.caps sw (secondL p sw l) = twoB p sw l from rfl, show (secondL p sw l).length = (leftL p sw l).length by simp [secondL]] at hB
  refine a_pure rfl rfl rfl cb75 (play_ok _ _ (rightF_le hck.r) _ (by omega) (by omega) _ (secondL p sw l) (by simp [secondL]; omega) (secondL_in hck sw l)) ?_
  refine a_op rfl ((by first | exact o_fa tf62_1 rfl rfl | exact o_fap tf62_1 rfl rfl)) ?_
  refine a_op0 rfl (o_st (N := 4) tn60 rfl rfl rfl rfl rfl) ?_
  refine a_nil ?_
  refine tq_n ?_
  refine awp_seq ?_
  refine w_reg (l := r26_41.toList) rfl r26_41_ok ?_
  refine a_op rfl ((by first | exact o_fa tf62_1 rfl rfl | exact o_fap tf62_1 rfl rfl)) ?_
  refine a_op rfl ((by first | exact o_ldg tg60 tn60 rfl rfl | exact o_ldpg tg60 tn60 rfl rfl rfl rfl)) ?_
  have hcl := rightF_le hck.r
  refine a_pure rfl rfl rfl cb31 (leave_ok (twoB p sw l) (by omega) (by omega)) ?_
  refine a_op rfl ((by first | exact o_fa tf62_2 rfl rfl | exact o_fap tf62_2 rfl rfl)) ?_
  refine a_op0 rfl (o_st (N := 0) tn34 rfl rfl rfl rfl rfl) ?_
  refine a_nil ?_
  refine tq_n ?_
  refine awp_seq ?_
  refine w_reg (l := r26_42.toList) rfl r26_42_ok ?_
  refine a_op rfl ((by first | exact o_ldg tg62 tn62 rfl rfl | exact o_ldpg tg62 tn62 rfl rfl rfl rfl)) ?_
  refine a_op0 rfl (o_st (N := 10) tn62 rfl rfl rfl rfl rfl) ?_
  refine a_op rfl (o_as rfl) ?_
  refine a_nil ?_
  refine tq_n ?_
  refine awp_ret ?_
  refine r_tup (xs := []) rfl ⟨c_ag tg62 tn62 rfl rfl, rfl, trivial⟩ ?_
  have hr : twoF p sw l = (⟨twoA p sw l, twoB p sw l, (twoB p sw l).rows.flatten⟩, 0) := by rw [twoF, if_neg (by assumption), if_neg (by omega), if_neg (by omega), if_pos (by simp_all)]
  rw [hr]
  exact rs_tup ⟨rs_pur (by simp) rfl, .raw _, trivial⟩
end Go.Ab.S
