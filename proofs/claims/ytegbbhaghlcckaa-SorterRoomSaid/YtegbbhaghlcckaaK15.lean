/- What functions of this program compute, and the laws of what they compute, under the bounds on lengths that each contract states. -/
import Derived.Test.YtegbbhaghlcckaaSG
import Derived.Test.YtegbbhaghlcckaaK14

set_option linter.unusedSimpArgs false
set_option linter.unusedVariables false
namespace Go.Ab.S
open Go Go.Ab Go.Proofs
/-! ### a run that has room -/
theorem filt3 {α : Type} {P Q R : α → Bool} : ∀ {l : List α}, (∀ y ∈ l, P y = true → Q y = true ∨ R y = true) → (l.filter P).length ≤ (l.filter Q).length + (l.filter R).length
  | [], _ => by simp
  | x :: t, h => by
    have ih := filt3 (l := t) fun y hy => h y (by simp [hy])
    have h1 := h x (by simp)
    simp only [List.filter_cons]
    cases hp : P x <;> cases hq : Q x <;> cases hr : R x <;> simp [hp, hq, hr] at h1 ⊢ <;> omega
theorem filt2 {α : Type} {P Q : α → Bool} {l : List α} (h : ∀ y ∈ l, P y = true → Q y = true) : (l.filter P).length ≤ (l.filter Q).length := by
  have := filt3 (P := P) (Q := Q) (R := fun _ => false) (l := l) fun y hy hp => .inl (h y hy hp)
  have e : l.filter (fun _ => false) = [] := List.filter_eq_nil_iff.2 (by simp)
  rw [e] at this
  simpa using this
section
variable {cs : List Int} {L : List FeedR} {sw : Int}
theorem play_room (hpos : ∀ c ∈ cs, 1 ≤ c) (hin : ∀ x ∈ L, x.stk < cs.length) (h0 : 0 ≤ sw) (hcap : ∀ k, k < cs.length → ((L.filter fun x : FeedR => decide (x.stk = (k : Int))).length : Int) ≤ cs.getD k 0) : ∀ i, i ≤ L.length →
    (playS cs sw L i).over = [] ∧ (∀ v ∈ (playS cs sw L i).swept, v = 0) ∧ ∀ k, k < cs.length → (playS cs sw L i).rows.getD k [] = ((L.take i).filter fun x : FeedR => decide (x.stk = (k : Int))).map (·.item)
  | 0, _ => by
    refine ⟨rfl, fun v hv => ?_, fun k _ => ?_⟩
    · simp only [playS, List.take_zero, List.foldl_nil, newM] at hv
      exact (List.mem_replicate.1 hv).2
    · simp only [playS, List.take_zero, List.foldl_nil, newM, getD_repl, List.filter_nil, List.map_nil]
  | i + 1, h => by
    have hi : i < L.length := by omega
    obtain ⟨e1, e2, e3⟩ := play_room hpos hin h0 hcap i (by omega)
    have hv := playS_inv (sw := sw) hpos h0 hin i (by omega)
    have hr := hv.rows; have hsl := hv.swept
    have htk : L.take (i + 1) = L.take i ++ [L[i]] := List.take_succ_eq_append_getElem hi
    have full : ∀ k : Nat, L[i].stk = k → k < cs.length → (playS cs sw L i).load.getD k 0 = cs.getD k 0 → False := fun k hk hkc hl => by
      have c1 := hv.cnt k hkc
      have c0 : (playS cs sw L i).swept.getD k 0 = 0 := by
        rw [getDi (show k < (playS cs sw L i).swept.length by omega)]; exact e2 _ (List.getElem_mem _)
      rw [c0, e3 k hkc, List.length_map, Int.mul_zero, hl] at c1
      have c2 := hcap k hkc
      have c3 : ((L.take (i + 1)).filter fun x : FeedR => decide (x.stk = (k : Int))).length ≤ (L.filter fun x : FeedR => decide (x.stk = (k : Int))).length := ((List.take_sublist _ _).filter _).length_le
      rw [htk, List.filter_append, List.length_append] at c3
      simp [hk] at c3
      omega
    rw [playS_succ hi]
    refine stepM_cases cs (playS cs sw L i) L[i] (fun t => t.over = [] ∧ (∀ v ∈ t.swept, v = 0) ∧ ∀ k, k < cs.length → t.rows.getD k [] = ((L.take (i + 1)).filter fun x : FeedR => decide (x.stk = (k : Int))).map (·.item)) hv.load (hin _ (List.getElem_mem hi)) hpos ?_ ?_ ?_ ?_
    · intro hneg
      refine ⟨e1, e2, fun k hk => ?_⟩
      have : ¬ L[i].stk = (k : Int) := by omega
      rw [htk, List.filter_append]
      simp [this]
      exact e3 k hk
    · intro j hj hjc _
      refine ⟨e1, e2, fun k hk => ?_⟩
      simp only [noteM, stackM]
      rw [gset (by omega), htk, List.filter_append]
      split
      · rename_i hkj
        subst hkj
        rw [e3 k hk]; simp [hj]
      · rename_i hkj
        have : ¬ L[i].stk = (k : Int) := by omega
        rw [e3 k hk]; simp [this]
    · intro j hj hjc hl _
      exact (full j hj hjc hl).elim
    · intro j hj hjc hl _
      exact (full j hj hjc hl).elim
end
section
variable {p : PlanR} {S : List ItemR} {sw : Int}
def cntS (p : PlanR) (S : List ItemR) (k : Int) : Int := ((S.map fun y => seatI p y.stop).count k : Nat)
theorem cntS_eq (k : Int) : cntS p S k = ((S.filter fun y => decide (seatI p y.stop = k)).length : Int) := by
  unfold cntS
  congr 1
  induction S with
  | nil => rfl
  | cons x t ih =>
    simp only [List.map_cons, List.count_cons, List.filter_cons, ih]
    by_cases h : seatI p x.stop = k <;> simp [h]
/-- All have a seat, no seat has more than its volume. -/
structure RoomS (p : PlanR) (S : List ItemR) : Prop where
  s : ∀ y ∈ S, 0 ≤ seatI p y.stop
  v : ∀ k, ∀ h : k < p.seats.length, cntS p S k ≤ p.seats[k].vol
theorem load_cnt {n : Nat} {sel : SeatR → Int} (hsel : ∀ x ∈ p.seats, 0 ≤ sel x ∧ sel x < n) (hr : RoomS p S) {k : Nat} (hk : k < n) : ∀ i, i ≤ p.seats.length →
    ((S.filter fun y => decide (0 ≤ seatI p y.stop ∧ seatI p y.stop < i ∧ sel (p.seats.getD (seatI p y.stop).toNat s0R) = k)).length : Int) ≤ (loadS n sel p.seats i).getD k 0
  | 0, _ => by
    have : (S.filter fun y => decide (0 ≤ seatI p y.stop ∧ seatI p y.stop < (0 : Nat) ∧ sel (p.seats.getD (seatI p y.stop).toNat s0R) = k)) = [] := by
      rw [List.filter_eq_nil_iff]; intro y _ h
      simp only [decide_eq_true_eq] at h; omega
    rw [this]
    simp only [loadS, getD_repl, List.length_nil]; omega
  | i + 1, h => by
    have hi : i < p.seats.length := by omega
    have ih := load_cnt hsel hr hk i (by omega)
    have hs := hsel _ (List.getElem_mem hi)
    have hll := loadS_len n sel p.seats i
    have hv := hr.v i hi
    rw [cntS_eq] at hv
    rw [loadS, getDg hi, gset (by omega)]
    split
    · rename_i hkk
      rw [← hkk]
      have := filt3 (l := S) (P := fun y => decide (0 ≤ seatI p y.stop ∧ seatI p y.stop < (i + 1 : Nat) ∧ sel (p.seats.getD (seatI p y.stop).toNat s0R) = k))
        (Q := fun y => decide (0 ≤ seatI p y.stop ∧ seatI p y.stop < i ∧ sel (p.seats.getD (seatI p y.stop).toNat s0R) = k)) (R := fun y => decide (seatI p y.stop = i)) (fun y _ hy => by
          simp only [decide_eq_true_eq] at hy ⊢; omega)
      omega
    · rename_i hkk
      have := filt2 (l := S) (P := fun y => decide (0 ≤ seatI p y.stop ∧ seatI p y.stop < (i + 1 : Nat) ∧ sel (p.seats.getD (seatI p y.stop).toNat s0R) = k))
        (Q := fun y => decide (0 ≤ seatI p y.stop ∧ seatI p y.stop < i ∧ sel (p.seats.getD (seatI p y.stop).toNat s0R) = k)) (fun y _ hy => by
          simp only [decide_eq_true_eq] at hy ⊢
          obtain ⟨g1, g2, g3⟩ := hy
          refine ⟨g1, ?_, g3⟩
          rcases Nat.lt_or_ge (seatI p y.stop).toNat i with hq | hq
          · omega
          · have : (seatI p y.stop).toNat = i := by omega
            rw [this, getDg hi] at g3
            omega)
      omega
theorem cap_of (h : CheckOk p) {k : Nat} (hk : k < p.caps.length) : (loadS p.caps.length (·.fst) p.seats p.seats.length).getD k 0 ≤ p.caps.getD k 0 ∧ (loadS p.caps.length (·.snd) p.seats p.seats.length).getD k 0 ≤ p.caps.getD k 0 := by
  have := fxI_neg (p := badFull p) h.fl k hk
  simp only [badFull, decide_eq_false_iff_not] at this
  omega
theorem aF_cap (h : CheckOk p) (hr : RoomS p S) {k : Nat} (hk : k < p.caps.length) : ((S.filter fun y => decide (aF p y = k)).length : Int) ≤ p.caps.getD k 0 := by
  have h1 := load_cnt (sel := (·.fst)) (n := p.caps.length) (fun x hx => ⟨(h.seat x hx).1, (h.seat x hx).2.1⟩) hr hk _ (Nat.le_refl _)
  have h2 := (cap_of h hk).1
  have h3 := filt2 (l := S) (P := fun y => decide (aF p y = k)) (Q := fun y => decide (0 ≤ seatI p y.stop ∧ seatI p y.stop < p.seats.length ∧ (p.seats.getD (seatI p y.stop).toNat s0R).fst = k)) (fun y _ hy => by
    have hy2 : aF p y = k := of_decide_eq_true hy
    refine decide_eq_true ?_
    unfold aF at hy2
    have := seatI_bd p y.stop
    split at hy2
    · rename_i hh; exact ⟨hh.1, this.2, hy2⟩
    · omega)
  omega
theorem bF_cap (h : CheckOk p) (hr : RoomS p S) {k : Nat} (hk : k < p.caps.length) : ((S.filter fun y => decide (bF p y = k)).length : Int) ≤ p.caps.getD k 0 := by
  have h1 := load_cnt (sel := (·.snd)) (n := p.caps.length) (fun x hx => (h.seat x hx).2.2) hr hk _ (Nat.le_refl _)
  have h2 := (cap_of h hk).2
  have h3 := filt2 (l := S) (P := fun y => decide (bF p y = k)) (Q := fun y => decide (0 ≤ seatI p y.stop ∧ seatI p y.stop < p.seats.length ∧ (p.seats.getD (seatI p y.stop).toNat s0R).snd = k)) (fun y _ hy => by
    have hy2 : bF p y = k := of_decide_eq_true hy
    refine decide_eq_true ?_
    unfold bF at hy2
    have := seatI_bd p y.stop
    split at hy2
    · rename_i hh; exact ⟨hh.1, this.2, hy2⟩
    · omega)
  omega
variable (h : CheckOk p) (hd : (S.map (·.id)).Nodup) (hr : RoomS p S) (h0 : 0 ≤ sw)
include h hd hr h0
omit h0 in
theorem capA {k : Nat} (hk : k < p.caps.length) : (((firstL p S).filter fun x : FeedR => decide (x.stk = (k : Int))).length : Int) ≤ p.caps.getD k 0 := by
  rw [firstL_eq h hd, List.filter_map, List.length_map]
  exact aF_cap h hr hk
theorem capB {k : Nat} (hk : k < p.caps.length) : (((secondL p sw S).filter fun x : FeedR => decide (x.stk = (k : Int))).length : Int) ≤ p.caps.getD k 0 := by
  rw [secondL_eq h hd h0, List.filter_map, List.length_map]
  have h1 := bF_cap h hr hk
  have h2 := ((left_perm (sw := sw) h hd h0).filter fun a => decide (bF p (itmOf S a) = k)).length_eq
  rw [List.append_assoc, List.filter_append, List.length_append, List.filter_map, List.length_map] at h2
  have h3 := filt2 (l := S) (P := (fun a => decide (bF p (itmOf S a) = k)) ∘ (·.id)) (Q := fun y => decide (bF p y = k)) (fun y hy hp => by
    simp only [Function.comp, itmOf_eq hd hy] at hp; exact hp)
  have h4 : (List.filter ((fun x => decide (x.stk = (k : Int))) ∘ fun a => (⟨a, bF p (itmOf S a)⟩ : FeedR)) (leftL p sw S)).length = (List.filter (fun a => decide (bF p (itmOf S a) = k)) (leftL p sw S)).length := rfl
  omega
theorem roomA : (twoA p sw S).over = [] ∧ (∀ v ∈ (twoA p sw S).swept, v = 0) ∧ ∀ k, k < p.caps.length → (twoA p sw S).rows.getD k [] = ((firstL p S).filter fun x : FeedR => decide (x.stk = (k : Int))).map (·.item) := by
  have := play_room (rightF_pos h.r).1 (fun x hx => (firstL_in h S x hx).2) h0 (fun k hk => capA h hd hr hk) _ (Nat.le_refl _)
  rw [playS_all, List.take_length] at this
  exact this
theorem roomB : (twoB p sw S).over = [] ∧ (∀ v ∈ (twoB p sw S).swept, v = 0) ∧ ∀ k, k < p.caps.length → (twoB p sw S).rows.getD k [] = ((secondL p sw S).filter fun x : FeedR => decide (x.stk = (k : Int))).map (·.item) := by
  have := play_room (rightF_pos h.r).1 (fun x hx => (secondL_in h sw S x hx).2) h0 (fun k hk => capB h hd hr h0 hk) _ (Nat.le_refl _)
  rw [playS_all, List.take_length] at this
  exact this
end
end Go.Ab.S
