/- What functions of this program compute, and the laws of what they compute, under the bounds on lengths that each contract states. -/
import Derived.Test.YtegbbhaghlcckaaSG

set_option linter.unusedSimpArgs false
set_option linter.unusedVariables false
namespace Go.Ab.S
open Go Go.Ab Go.Proofs
/-! ### the order in which items are read -/
/-- The map of places: each id leads to its number in the row. -/
def posM (ids : List Int) : Nat → List (Int × Int)
  | 0 => []
  | i + 1 => mput (posM ids i) (ids.getD i 0) i
theorem posM_get {ids : List Int} (hd : ids.Nodup) : ∀ i, i ≤ ids.length → ∀ n, ∀ h : n < i, ∀ hn : n < ids.length, mget (posM ids i) ids[n] = some (n : Int)
  | 0, _, n, h, _ => by omega
  | i + 1, hi, n, h, hn => by
    rw [posM, mget_put, getDi (show i < ids.length by omega)]
    by_cases e : n = i
    · subst e; simp
    · rw [if_neg, posM_get hd i (by omega) n (by omega) hn]
      intro he
      rcases Nat.lt_or_gt_of_ne e with h1 | h1
      · exact (List.pairwise_iff_getElem.1 hd) n i hn (by omega) h1 he.symm
      · exact (List.pairwise_iff_getElem.1 hd) i n (by omega) hn h1 he
section
variable {cs : List Int} {L : List FeedR} {sw : Int}
/-- A stacker holds some of the items, as they were fed. -/
theorem row_sub (hpos : ∀ c ∈ cs, 1 ≤ c) (hin : ∀ x ∈ L, x.stk < cs.length) (h0 : 0 ≤ sw) : ∀ i, i ≤ L.length → ∀ k, k < cs.length → List.Sublist ((playS cs sw L i).rows.getD k []) ((L.take i).map (·.item))
  | 0, _, k, hk => by
    have : (playS cs sw L 0).rows.getD k [] = [] := by simp only [playS, List.take_zero, List.foldl_nil, newM, getD_repl]
    rw [this]; exact List.nil_sublist _
  | i + 1, h, k, hk => by
    have hi : i < L.length := by omega
    have ih := row_sub hpos hin h0 i (by omega) k hk
    have hv := playS_inv hpos h0 hin i (by omega)
    have hr := hv.rows
    have htk : (L.take (i + 1)).map (·.item) = (L.take i).map (·.item) ++ [L[i].item] := by rw [List.take_succ_eq_append_getElem hi, List.map_append]; rfl
    have old : List.Sublist ((playS cs sw L i).rows.getD k []) ((L.take (i + 1)).map (·.item)) := by
      rw [htk]; exact ih.trans (List.sublist_append_left _ _)
    have new : ∀ (t : MS) (e : EvR) (j : Nat), j < cs.length → t.rows = (playS cs sw L i).rows → List.Sublist ((noteM (stackM t j L[i].item) e).rows.getD k []) ((L.take (i + 1)).map (·.item)) := fun t e j hjc ht => by
      simp only [noteM, stackM, ht]
      rw [gset (by omega)]
      split
      · rename_i hkj
        subst hkj
        rw [htk]
        exact ih.append (List.Sublist.refl _)
      · exact old
    rw [playS_succ hi]
    exact stepM_cases cs (playS cs sw L i) L[i] (fun t => List.Sublist (t.rows.getD k []) _) hv.load (hin _ (List.getElem_mem hi)) hpos (fun _ => old) (fun j hj hjc _ => new _ _ j hjc rfl) (fun j hj hjc _ _ => new _ _ j hjc rfl) (fun j hj hjc _ _ => old)
/-- What leaves a run, stacker by stacker: ordered by stacker, then as it was fed. -/
theorem rows_pair (hpos : ∀ c ∈ cs, 1 ≤ c) (hin : ∀ x ∈ L, x.stk < cs.length) (h0 : 0 ≤ sw) {R : Int → Int → Prop} (hR : (L.map (·.item)).Pairwise R) (st : Int → Int) (hst : ∀ x ∈ L, x.stk = st x.item) :
    (playF cs sw L).rows.flatten.Pairwise fun a b => st a < st b ∨ (st a = st b ∧ R a b) := by
  have hiv := playS_inv (sw := sw) hpos h0 hin L.length (Nat.le_refl _)
  rw [playS_all] at hiv
  have hrl := hiv.rows
  have hf : ∀ k (hk : k < (playF cs sw L).rows.length), ∀ a ∈ (playF cs sw L).rows[k], st a = k := fun k hk a ha => by
    obtain ⟨x, hx, e1, e2⟩ := rows_fed (sw := sw) hpos hin h0 _ (Nat.le_refl _) k (by omega) a (by rw [playS_all, getDg hk]; exact ha)
    rw [List.take_length] at hx
    rw [← e1, ← hst x hx, e2]
  rw [List.pairwise_flatten]
  constructor
  · intro r hr
    obtain ⟨k, hk, rfl⟩ := List.getElem_of_mem hr
    have hs := row_sub (sw := sw) hpos hin h0 _ (Nat.le_refl _) k (by omega)
    rw [playS_all, getDg hk, List.take_length] at hs
    have hp := hR.sublist hs
    rw [List.pairwise_iff_getElem] at hp ⊢
    intro i j hi hj hij
    exact .inr ⟨by rw [hf k hk _ (List.getElem_mem hi), hf k hk _ (List.getElem_mem hj)], hp i j hi hj hij⟩
  · rw [List.pairwise_iff_getElem]
    intro i j hi hj hij a ha b hb
    left
    rw [hf i hi a ha, hf j hj b hb]; omega
end
section
variable {p : PlanR} {l : List ItemR} {sw : Int}
def stA (p : PlanR) (l : List ItemR) (a : Int) : Int := aF p (itmOf l a)
def stB (p : PlanR) (l : List ItemR) (a : Int) : Int := bF p (itmOf l a)
def readL (p : PlanR) (sw : Int) (l : List ItemR) : List Int := (twoB p sw l).rows.flatten
/-- The order of reading. -/
def Bef (p : PlanR) (l : List ItemR) (a b : Int) : Prop :=
  stB p l a < stB p l b ∨ (stB p l a = stB p l b ∧ (stA p l a < stA p l b ∨ (stA p l a = stA p l b ∧ (l.map (·.id)).idxOf a < (l.map (·.id)).idxOf b)))
theorem left_pair (h : CheckOk p) (hd : (l.map (·.id)).Nodup) (h0 : 0 ≤ sw) : (leftL p sw l).Pairwise fun a b => stA p l a < stA p l b ∨ (stA p l a = stA p l b ∧ (l.map (·.id)).idxOf a < (l.map (·.id)).idxOf b) := by
  refine rows_pair (sw := sw) (L := firstL p l) (rightF_pos h.r).1 (fun x hx => (firstL_in h l x hx).2) h0 (R := fun a b => (l.map (·.id)).idxOf a < (l.map (·.id)).idxOf b) ?_ (stA p l) ?_
  · rw [firstL_ids h hd, List.pairwise_iff_getElem]
    intro i j hi hj hij
    rw [hd.idxOf_getElem i hi, hd.idxOf_getElem j hj]; exact hij
  · intro x hx
    rw [firstL_eq h hd] at hx
    obtain ⟨y, hy, rfl⟩ := List.mem_map.1 hx
    show aF p y = stA p l y.id
    rw [stA, itmOf_eq hd hy]
theorem read_pair (h : CheckOk p) (hd : (l.map (·.id)).Nodup) (h0 : 0 ≤ sw) : (readL p sw l).Pairwise (Bef p l) := by
  refine rows_pair (sw := sw) (L := secondL p sw l) (rightF_pos h.r).1 (fun x hx => (secondL_in h sw l x hx).2) h0 (by rw [secondL_ids]; exact left_pair h hd h0) (stB p l) ?_
  intro x hx
  rw [secondL_eq h hd h0] at hx
  obtain ⟨a, ha, rfl⟩ := List.mem_map.1 hx
  rfl
theorem read_perm (h : CheckOk p) (hd : (l.map (·.id)).Nodup) (h0 : 0 ≤ sw) : (readL p sw l ++ (twoB p sw l).over ++ (twoB p sw l).rej).Perm (leftL p sw l) := by
  have := playS_all_perm (sw := sw) (l := secondL p sw l) (rightF_pos h.r).1 h0 (fun x hx => (secondL_in h sw l x hx).2) _ (Nat.le_refl _)
  rw [playS_all, List.take_length, secondL_ids] at this
  exact this
/-- What is read was put into stackers in both passes. -/
theorem read_fed (h : CheckOk p) (hd : (l.map (·.id)).Nodup) (h0 : 0 ≤ sw) : ∀ a ∈ readL p sw l, ∃ y ∈ l, y.id = a ∧ 0 ≤ seatI p y.stop ∧ y.rd1 = true ∧ y.rd2 = true := by
  intro a ha
  have hl : a ∈ leftL p sw l := (read_perm h hd h0).mem_iff.1 (by simp [ha])
  obtain ⟨y, hy, e, hs, h1⟩ := left_fed h hd h0 a hl
  refine ⟨y, hy, e, hs, h1, ?_⟩
  obtain ⟨r, hr, har⟩ := List.mem_flatten.1 (show a ∈ (twoB p sw l).rows.flatten from ha)
  obtain ⟨k, hk, rfl⟩ := List.getElem_of_mem hr
  have hfi := secondL_in h sw l
  have hrl := (play_flat_le (sw := sw) h0 h.r hfi).2
  have hk' : k < p.caps.length := by rw [← hrl]; exact hk
  have := rows_fed (sw := sw) (rightF_pos h.r).1 (fun x hx => (hfi x hx).2) h0 _ (Nat.le_refl _) k hk' a (by rw [playS_all]; show a ∈ (twoB p sw l).rows.getD k []; rw [getDg hk]; exact har)
  obtain ⟨x, hx, e1, e2⟩ := this
  rw [List.take_length, secondL_eq h hd h0] at hx
  obtain ⟨b, hb, rfl⟩ := List.mem_map.1 hx
  simp only at e1 e2
  subst e1
  rw [← e, itmOf_eq hd hy] at e2
  simp only [bF] at e2
  split at e2
  · rename_i hh; exact hh.2
  · omega
/-- Seats lie in the order of their stackers. -/
theorem seat_lt (h : CheckOk p) : ∀ d i, ∀ hj : i + d + 1 < p.seats.length, p.seats[i].snd < p.seats[i + d + 1].snd ∨ (p.seats[i].snd = p.seats[i + d + 1].snd ∧ p.seats[i].fst < p.seats[i + d + 1].fst) := by
  have one : ∀ i, ∀ hj : i + 1 < p.seats.length, p.seats[i].snd < p.seats[i + 1].snd ∨ (p.seats[i].snd = p.seats[i + 1].snd ∧ p.seats[i].fst < p.seats[i + 1].fst) := fun i hj => by
    have h1 := fxI_neg (p := badSeat p.caps.length p.seats) h.b (i + 1) hj
    unfold badSeat at h1
    rw [getDg hj, show i + 1 - 1 = i by omega, getDg (show i < p.seats.length by omega)] at h1
    simp only [Bool.or_eq_false_iff, Bool.and_eq_false_iff, decide_eq_false_iff_not] at h1
    omega
  intro d
  induction d with
  | zero => exact one
  | succ d ih =>
    intro i hj
    have h1 := ih i (by omega)
    have h2 := one (i + d + 1) (by omega)
    simp only [show i + (d + 1) + 1 = i + d + 1 + 1 by omega]
    omega
theorem seat_fit (h : CheckOk p) {y : ItemR} (hs : 0 ≤ seatI p y.stop) (h1 : y.rd1 = true) (h2 : y.rd2 = true) : ∃ n : Nat, ∃ hn : n < p.seats.length, seatI p y.stop = n ∧ aF p y = p.seats[n].fst ∧ bF p y = p.seats[n].snd := by
  obtain ⟨n, hn⟩ : ∃ n : Nat, seatI p y.stop = n := ⟨(seatI p y.stop).toNat, by omega⟩
  have hnl : n < p.seats.length := by have := seatI_bd p y.stop; omega
  exact ⟨n, hnl, hn, by rw [aF, if_pos ⟨hs, h1⟩, hn, Int.toNat_natCast, getDg hnl], by rw [bF, if_pos ⟨hs, h2⟩, hn, Int.toNat_natCast, getDg hnl]⟩
/-- Two items that are read one behind the other. -/
theorem read_two (h : CheckOk p) (hd : (l.map (·.id)).Nodup) (h0 : 0 ≤ sw) {i j n m : Nat} (hij : i < j) (hj : j < (readL p sw l).length) (hn : n < l.length) (hm : m < l.length) (en : l[n].id = (readL p sw l)[i]) (em : l[m].id = (readL p sw l)[j]) :
    seatI p l[n].stop ≤ seatI p l[m].stop ∧ (seatI p l[n].stop = seatI p l[m].stop → n < m) := by
  have hb := (List.pairwise_iff_getElem.1 (read_pair (sw := sw) h hd h0)) i j (by omega) hj hij
  have fit : ∀ (k : Nat) (hk : k < l.length) (a : Int), a ∈ readL p sw l → l[k].id = a → ∃ q : Nat, ∃ hq : q < p.seats.length, seatI p l[k].stop = q ∧ stA p l a = p.seats[q].fst ∧ stB p l a = p.seats[q].snd ∧ (l.map (·.id)).idxOf a = k := fun k hk a ha e => by
    obtain ⟨y, hy, ey, hs, h1, h2⟩ := read_fed h hd h0 a ha
    have : y = l[k] := by
      have e1 := itmOf_eq hd hy
      have e2 := itmOf_eq hd (List.getElem_mem hk)
      rw [← e1, ← e2, ey, e]
    subst this
    obtain ⟨q, hq, e1, e2, e3⟩ := seat_fit h hs h1 h2
    refine ⟨q, hq, e1, by rw [stA, ← e, itmOf_eq hd (List.getElem_mem hk)]; exact e2, by rw [stB, ← e, itmOf_eq hd (List.getElem_mem hk)]; exact e3, ?_⟩
    have := hd.idxOf_getElem k (by simpa using hk)
    rw [List.getElem_map] at this
    rw [← e]; exact this
  obtain ⟨q, hq, e1, e2, e3, e4⟩ := fit n hn _ (List.getElem_mem (show i < (readL p sw l).length by omega)) en
  obtain ⟨r, hr, f1, f2, f3, f4⟩ := fit m hm _ (List.getElem_mem hj) em
  unfold Bef at hb
  rw [e2, e3, e4, f2, f3, f4] at hb
  rw [e1, f1]
  rcases Nat.lt_trichotomy q r with hqr | hqr | hqr
  · omega
  · subst hqr; omega
  · have := seat_lt h (q - r - 1) r (by omega)
    simp only [show r + (q - r - 1) + 1 = q by omega] at this
    omega
theorem all_perm (h : CheckOk p) (hd : (l.map (·.id)).Nodup) (h0 : 0 ≤ sw) : [readL p sw l, (twoA p sw l).over, (twoA p sw l).rej, (twoB p sw l).over, (twoB p sw l).rej].flatten.Perm (l.map (·.id)) := by
  simp only [List.flatten_cons, List.flatten_nil, List.append_nil]
  have h1 := read_perm (sw := sw) h hd h0
  have h2 := left_perm (sw := sw) h hd h0
  refine List.Perm.trans ?_ h2
  refine List.Perm.trans ?_ ((h1.append_right _).append_right _)
  simp only [List.append_assoc]
  refine List.Perm.append_left _ ?_
  rw [← List.append_assoc, ← List.append_assoc (twoB p sw l).over]
  exact List.perm_append_comm
end
end Go.Ab.S
