/- What functions of this program compute, and the laws of what they compute, under the bounds on lengths that each contract states. -/
import Derived.Test.YtegbbhaghlcckaaK15

set_option linter.unusedSimpArgs false
set_option linter.unusedVariables false
namespace Go.Ab.S
open Go Go.Ab Go.Proofs
/-! ### items within the volumes -/
def takesS (p : PlanR) (acc : List ItemR) (y : ItemR) : Prop := 0 ≤ seatI p y.stop ∧ cntS p acc (seatI p y.stop) < (p.seats.getD (seatI p y.stop).toNat s0R).vol
instance (p : PlanR) (acc : List ItemR) (y : ItemR) : Decidable (takesS p acc y) := inferInstanceAs (Decidable (_ ∧ _))
def someS (p : PlanR) (l : List ItemR) : Nat → List ItemR
  | 0 => []
  | i + 1 => if takesS p (someS p l i) (l.getD i i0R) then someS p l i ++ [l.getD i i0R] else someS p l i
def cntL (xs : List Int) : List (Int × Int) := xs.foldl (fun m a => mput m a ((mget m a).getD 0 + 1)) []
theorem cntL_snoc (xs : List Int) (a : Int) : cntL (xs ++ [a]) = mput (cntL xs) a ((mget (cntL xs) a).getD 0 + 1) := by simp [cntL, List.foldl_append]
theorem snoc_ind2 {α : Type} {P : List α → Prop} (h0 : P []) (h1 : ∀ l x, P l → P (l ++ [x])) : ∀ l, P l := by
  intro l
  generalize hn : l.length = n
  induction n generalizing l with
  | zero => have : l = [] := List.length_eq_zero_iff.1 hn
            subst this; exact h0
  | succ n ih =>
    have hne : l ≠ [] := fun h => by subst h; simp at hn
    obtain ⟨m, x, rfl⟩ : ∃ m x, l = m ++ [x] := ⟨l.dropLast, l.getLast hne, (List.dropLast_concat_getLast hne).symm⟩
    exact h1 m x (ih m (by simpa using hn))
theorem cntL_get (xs : List Int) (k : Int) : (mget (cntL xs) k).getD 0 = ((xs.count k : Nat) : Int) := by
  induction xs using snoc_ind2 generalizing k with
  | h0 => rfl
  | h1 l x ih =>
    rw [cntL_snoc, mget_put, List.count_append]
    by_cases e : x = k
    · subst e; rw [if_pos rfl, Option.getD_some, ih]; simp
    · rw [if_neg e, ih]; simp [e]
def stsS (p : PlanR) (S : List ItemR) : List Int := S.map fun y => seatI p y.stop
theorem stsS_get (p : PlanR) (S : List ItemR) (k : Int) : (mget (cntL (stsS p S)) k).getD 0 = cntS p S k := cntL_get _ _
theorem cntS_bd (p : PlanR) (S : List ItemR) (k : Int) : 0 ≤ cntS p S k ∧ cntS p S k ≤ S.length := by
  unfold cntS
  have := List.count_le_length (a := k) (l := S.map fun y => seatI p y.stop)
  rw [List.length_map] at this
  omega
section
variable {p : PlanR} {l : List ItemR}
theorem someS_yes {i : Nat} (hi : i < l.length) (h1 : 0 ≤ seatI p l[i].stop) (h2 : cntS p (someS p l i) (seatI p l[i].stop) < (p.seats.getD (seatI p l[i].stop).toNat s0R).vol) : someS p l (i + 1) = someS p l i ++ [l[i]] := by
  rw [someS, getDg hi, if_pos ⟨h1, h2⟩]
theorem someS_no {i : Nat} (hi : i < l.length) (h : ¬ (0 ≤ seatI p l[i].stop ∧ cntS p (someS p l i) (seatI p l[i].stop) < (p.seats.getD (seatI p l[i].stop).toNat s0R).vol)) : someS p l (i + 1) = someS p l i := by
  rw [someS, getDg hi]; exact if_neg h
theorem someS_sub : ∀ i, i ≤ l.length → List.Sublist (someS p l i) (l.take i)
  | 0, _ => by simp [someS]
  | i + 1, h => by
    have hi : i < l.length := by omega
    have ih := someS_sub i (by omega)
    rw [someS, getDg hi, List.take_succ_eq_append_getElem hi]
    split
    · exact ih.append (List.Sublist.refl _)
    · exact ih.trans (List.sublist_append_left _ _)
theorem someS_room (hv : ∀ x ∈ p.seats, 0 ≤ x.vol) : ∀ i, i ≤ l.length → RoomS p (someS p l i)
  | 0, _ => ⟨fun y hy => by simp [someS] at hy, fun k h => by have := hv _ (List.getElem_mem h); simp [someS, cntS]; exact this⟩
  | i + 1, h => by
    have hi : i < l.length := by omega
    have ih := someS_room hv i (by omega)
    rw [someS, getDg hi]
    split
    · rename_i ht
      refine ⟨fun y hy => ?_, fun k hk => ?_⟩
      · rcases List.mem_append.1 hy with hy | hy
        · exact ih.s y hy
        · simp at hy; subst hy; exact ht.1
      · have h1 := ih.v k hk
        unfold cntS at h1 ⊢
        rw [List.map_append, List.count_append]
        by_cases e : seatI p l[i].stop = k
        · have h2 := ht.2
          unfold cntS at h2
          rw [e, Int.toNat_natCast, getDg hk] at h2
          simp [e]; omega
        · simp [e]; omega
    · exact ih
variable {S : List ItemR}
theorem seat_eq (h : CheckOk p) {a b : Int} (h0 : 0 ≤ seatI p a) (e : seatI p a = seatI p b) : a = b := by
  rcases seatI_cases p a with ⟨i, hi, e1, e2⟩ | ⟨e1, _⟩
  · rcases seatI_cases p b with ⟨j, hj, f1, f2⟩ | ⟨f1, _⟩
    · have : i = j := by omega
      subst this; rw [← e2, f2]
    · omega
  · omega
theorem sort_of (h : CheckOk p) (hr : RoomS p S) (hl : S.length ≤ 2000) : SortOk p (S.map (·.stop)) where
  l := by simpa using hl
  st := fun a ha => by
    obtain ⟨y, hy, rfl⟩ := List.mem_map.1 ha
    have hs := hr.s y hy
    have hb := seatI_bd p y.stop
    obtain ⟨n, hn⟩ : ∃ n : Nat, seatI p y.stop = n := ⟨(seatI p y.stop).toNat, by omega⟩
    have hnl : n < p.seats.length := by omega
    have e := stOf_seat h y.stop
    rw [if_pos hs, hn, Int.toNat_natCast, getDg hnl] at e
    exact ⟨_, List.getElem_mem hnl, (stOf_mem e).2, e⟩
  v := fun i hi => by
    have hi' : i < S.length := by simpa using hi
    have hs := hr.s _ (List.getElem_mem hi')
    have hb := seatI_bd p S[i].stop
    obtain ⟨n, hn⟩ : ∃ n : Nat, seatI p S[i].stop = n := ⟨(seatI p S[i].stop).toNat, by omega⟩
    have hnl : n < p.seats.length := by omega
    have e := stOf_seat h S[i].stop
    rw [if_pos hs, hn, Int.toNat_natCast, getDg hnl] at e
    have hv := hr.v n hnl
    rw [List.getElem_map, e, Option.getD_some]
    have h1 : ((S.map (·.stop)).take (i + 1)).count S[i].stop ≤ (S.map (·.stop)).count S[i].stop := (List.take_sublist _ _).count_le _
    have h2 : (S.map (·.stop)).count S[i].stop ≤ (S.map fun y => seatI p y.stop).count (n : Int) := by
      have := List.count_le_count_map (l := S.map (·.stop)) (f := seatI p) (x := S[i].stop)
      rw [List.map_map, hn] at this
      exact this
    unfold cntS at hv
    omega
theorem rows_range {rows : List (List Int)} {n : Nat} {f : Nat → List Int} (hl : rows.length = n) (h : ∀ k, k < n → rows.getD k [] = f k) : rows = (List.range n).map f := by
  apply List.ext_getElem
  · simp [hl]
  · intro k h1 h2
    have := h k (by omega)
    rw [getDg h1] at this
    simp [this]
def rdT (y : ItemR) : ItemR := ⟨y.id, y.stop, true, true⟩
theorem rdT_ids : (S.map rdT).map (·.id) = S.map (·.id) := by rw [List.map_map]; rfl
theorem rdT_stops : (S.map rdT).map (·.stop) = S.map (·.stop) := by rw [List.map_map]; rfl
theorem rdT_room (hr : RoomS p S) : RoomS p (S.map rdT) := by
  refine ⟨fun y hy => ?_, fun k hk => ?_⟩
  · obtain ⟨x, hx, rfl⟩ := List.mem_map.1 hy; exact hr.s x hx
  · have := hr.v k hk
    unfold cntS at this ⊢
    rw [List.map_map]; exact this
/-- The item with a number. -/
def idAt (T : List ItemR) (a : Int) : Int := (T.getD a.toNat i0R).id
theorem order_room (h : CheckOk p) (hd : (S.map (·.id)).Nodup) (hr : RoomS p S) (hl : S.length ≤ 2000) : (twoB p 0 (S.map rdT)).rows.flatten = (ord2 p (S.map (·.stop))).map (idAt (S.map rdT)) := by
  obtain ⟨T, hT⟩ : ∃ T, T = S.map rdT := ⟨_, rfl⟩
  have hdT : (T.map (·.id)).Nodup := by rw [hT, rdT_ids]; exact hd
  have hrT : RoomS p T := by rw [hT]; exact rdT_room hr
  have hso := sort_of h hr hl
  rw [← hT]
  obtain ⟨ids, hids⟩ : ∃ ids, ids = S.map (·.stop) := ⟨_, rfl⟩
  rw [← hids] at hso ⊢
  have hln : ids.length = T.length := by rw [hids, hT]; simp
  have hA := roomA (sw := 0) h hdT hrT (by omega)
  have hB := roomB (sw := 0) h hdT hrT (by omega)
  have at_ : ∀ a : Int, 0 ≤ a → a < ids.length → ∃ y ∈ T, idAt T a = y.id ∧ itmOf T (idAt T a) = y ∧ aF p y = (seatOf p ids a).fst ∧ bF p y = (seatOf p ids a).snd := fun a h0 h1 => by
    obtain ⟨n, rfl⟩ : ∃ n : Nat, a = n := ⟨a.toNat, by omega⟩
    have hn : n < T.length := by omega
    have hnS : n < S.length := by simpa [hT] using hn
    have e : idAt T n = T[n].id := by rw [idAt, Int.toNat_natCast, getDg hn]
    have hy := List.getElem_mem hn
    have hTn : T[n] = rdT S[n] := by simp [hT]
    have hst : ids.getD ((n : Nat) : Int).toNat 0 = T[n].stop := by rw [Int.toNat_natCast, getDi (by omega), hTn]; simp [hids, rdT]
    have hs := hrT.s _ hy
    have hr1 : T[n].rd1 = true := by rw [hTn]; rfl
    have hr2 : T[n].rd2 = true := by rw [hTn]; rfl
    have hso2 : seatOf p ids n = p.seats.getD (seatI p T[n].stop).toNat s0R := by rw [seatOf, hst, stOf_seat h, if_pos hs]; rfl
    refine ⟨T[n], hy, e, by rw [e, itmOf_eq hdT hy], ?_, ?_⟩
    · rw [aF, if_pos ⟨hs, hr1⟩, hso2]
    · rw [bF, if_pos ⟨hs, hr2⟩, hso2]
  have hTi : T = (idxL T.length).map fun a => T.getD a.toNat i0R := by
    apply List.ext_getElem
    · simp [idxL_len]
    · intro k h1 h2
      simp [idxL, h1]
  have hF : firstL p T = (idxL ids.length).map fun a => ⟨idAt T a, (seatOf p ids a).fst⟩ := by
    rw [firstL_eq h hdT]
    conv => lhs; rw [hTi]
    rw [List.map_map, hln]
    refine List.map_congr_left fun a ha => ?_
    have hb := idxL_in a ha
    obtain ⟨y, hy, e1, e2, e3, _⟩ := at_ a hb.1 (by omega)
    have : T.getD a.toNat i0R = y := by
      rw [idAt] at e1
      have hk : T.getD a.toNat i0R ∈ T := by rw [getDg (show a.toNat < T.length by omega)]; exact List.getElem_mem _
      rw [← itmOf_eq hdT hk, e1, itmOf_eq hdT hy]
    simp only [Function.comp, this, e3]
    rw [show idAt T a = y.id from e1]
  have hLr : (twoA p 0 T).rows = (row1 p ids).map fun r => r.map (idAt T) := by
    have hlen : (twoA p 0 T).rows.length = p.caps.length := (play_flat_le (sw := 0) (by omega) h.r (firstL_in h T)).2
    have h1 := rows_range hlen hA.2.2
    have h2 := rows_range (rows := row1 p ids) (n := p.caps.length) row1_len (passS_get (sort_d1 h hso) _ (Nat.le_refl _))
    rw [h1, h2, List.map_map]
    refine List.map_congr_left fun k _ => ?_
    simp only [Function.comp, hF, List.filter_map, List.map_map, List.take_length]
    rfl
  have hL : leftL p 0 T = (ord1 p ids).map (idAt T) := by
    show (twoA p 0 T).rows.flatten = _
    rw [hLr, ord1, List.map_flatten]
  have hG : secondL p 0 T = (ord1 p ids).map fun a => ⟨idAt T a, (seatOf p ids a).snd⟩ := by
    rw [secondL_eq h hdT (by omega), hL, List.map_map]
    refine List.map_congr_left fun a ha => ?_
    have hb := ord1_in h hso a ha
    obtain ⟨y, hy, e1, e2, _, e4⟩ := at_ a hb.1 hb.2
    simp only [Function.comp, e2, e4]
  have hlen : (twoB p 0 T).rows.length = p.caps.length := (play_flat_le (sw := 0) (by omega) h.r (secondL_in h 0 T)).2
  have h1 := rows_range hlen hB.2.2
  have h2 := rows_range (rows := row2 p ids) (n := p.caps.length) row2_len (passS_get (sort_d2 h hso) _ (Nat.le_refl _))
  have hRr : (twoB p 0 T).rows = (row2 p ids).map fun r => r.map (idAt T) := by
    rw [h1, h2, List.map_map]
    refine List.map_congr_left fun k _ => ?_
    simp only [Function.comp, hG, List.filter_map, List.map_map, List.take_length]
    rfl
  rw [hRr, ord2, List.map_flatten]
end
end Go.Ab.S
