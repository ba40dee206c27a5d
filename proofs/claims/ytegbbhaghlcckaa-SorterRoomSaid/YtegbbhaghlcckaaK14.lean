/- What functions of this program compute, and the laws of what they compute, under the bounds on lengths that each contract states. -/
import Derived.Test.YtegbbhaghlcckaaK13

set_option linter.unusedSimpArgs false
set_option linter.unusedVariables false
namespace Go.Ab.S
open Go Go.Ab Go.Proofs
/-! ### sequence.Sort -/
def cntM (ids : List Int) : Nat → List (Int × Int)
  | 0 => []
  | i + 1 => mput (cntM ids i) (ids.getD i 0) ((mget (cntM ids i) (ids.getD i 0)).getD 0 + 1)
theorem cntM_get (ids : List Int) (a : Int) : ∀ i, i ≤ ids.length → (mget (cntM ids i) a).getD 0 = ((ids.take i).count a : Int)
  | 0, _ => by simp [cntM, mget]
  | i + 1, h => by
    have hi : i < ids.length := by omega
    rw [cntM, mget_put, getDi hi, List.take_succ_eq_append_getElem hi, List.count_append]
    by_cases e : ids[i] = a
    · rw [if_pos e, Option.getD_some, cntM_get ids _ i (by omega), e]; simp
    · rw [if_neg e, cntM_get ids a i (by omega)]; simp [e]
def idxL (i : Nat) : List Int := (List.range i).map fun n : Nat => (n : Int)
theorem idxL_succ (i : Nat) : idxL (i + 1) = idxL i ++ [(i : Int)] := by simp [idxL, List.range_succ]
theorem idxL_len (i : Nat) : (idxL i).length = i := by simp [idxL]
theorem idxL_in {i : Nat} : ∀ a ∈ idxL i, 0 ≤ a ∧ a < i := fun a ha => by
  obtain ⟨n, hn, rfl⟩ := List.mem_map.1 ha
  have := List.mem_range.1 hn; omega
def seatOf (p : PlanR) (ids : List Int) (a : Int) : SeatR := (stOf p (ids.getD a.toNat 0)).getD s0R
def row1 (p : PlanR) (ids : List Int) : List (List Int) := passS p.caps.length (fun a => (seatOf p ids a).fst) (idxL ids.length) (idxL ids.length).length
def ord1 (p : PlanR) (ids : List Int) : List Int := (row1 p ids).flatten
def row2 (p : PlanR) (ids : List Int) : List (List Int) := passS p.caps.length (fun a => (seatOf p ids a).snd) (ord1 p ids) (ord1 p ids).length
def ord2 (p : PlanR) (ids : List Int) : List Int := (row2 p ids).flatten
structure SortOk (p : PlanR) (ids : List Int) : Prop where
  l : ids.length ≤ 2000
  st : ∀ a ∈ ids, ∃ s ∈ p.seats, s.stop = a ∧ stOf p a = some s
  v : ∀ i, ∀ h : i < ids.length, ((ids.take (i + 1)).count ids[i] : Int) ≤ ((stOf p ids[i]).getD s0R).vol
section
variable {p : PlanR} {ids : List Int}
theorem seat_in (h : CheckOk p) {s : SeatR} (hs : s ∈ p.seats) : 0 ≤ s.fst ∧ s.fst < p.caps.length ∧ 0 ≤ s.snd ∧ s.snd < p.caps.length := by
  obtain ⟨i, hi, rfl⟩ := List.getElem_of_mem hs
  have h1 := fxI_neg (p := badSeat p.caps.length p.seats) h.b i hi
  unfold badSeat at h1
  rw [getDg hi] at h1
  simp only [Bool.or_eq_false_iff, decide_eq_false_iff_not] at h1
  omega
theorem sort_in (h : CheckOk p) (hs : SortOk p ids) {a : Int} (h0 : 0 ≤ a) (h1 : a < ids.length) : seatOf p ids a ∈ p.seats := by
  obtain ⟨n, rfl⟩ : ∃ n : Nat, a = n := ⟨a.toNat, by omega⟩
  have hn : n < ids.length := by omega
  obtain ⟨s, hs1, _, hs2⟩ := hs.st _ (List.getElem_mem hn)
  rw [seatOf, Int.toNat_natCast, getDi hn, hs2]
  exact hs1
theorem sort_d1 (h : CheckOk p) (hs : SortOk p ids) : ∀ a ∈ idxL ids.length, 0 ≤ (seatOf p ids a).fst ∧ (seatOf p ids a).fst < p.caps.length := fun a ha => by
  have h1 := idxL_in a ha
  have := seat_in h (sort_in h hs h1.1 h1.2); omega
theorem ord1_perm (h : CheckOk p) (hs : SortOk p ids) : (ord1 p ids).Perm (idxL ids.length) := by
  have := passS_perm (n := p.caps.length) (dst := fun a => (seatOf p ids a).fst) (ord := idxL ids.length) (sort_d1 h hs) _ (Nat.le_refl _)
  rw [List.take_length] at this; exact this
theorem ord1_in (h : CheckOk p) (hs : SortOk p ids) : ∀ a ∈ ord1 p ids, 0 ≤ a ∧ a < ids.length := fun a ha => idxL_in a ((ord1_perm h hs).mem_iff.1 ha)
theorem sort_d2 (h : CheckOk p) (hs : SortOk p ids) : ∀ a ∈ ord1 p ids, 0 ≤ (seatOf p ids a).snd ∧ (seatOf p ids a).snd < p.caps.length := fun a ha => by
  have h1 := ord1_in h hs a ha
  have := seat_in h (sort_in h hs h1.1 h1.2); omega
theorem ord2_perm (h : CheckOk p) (hs : SortOk p ids) : (ord2 p ids).Perm (ord1 p ids) := by
  have := passS_perm (n := p.caps.length) (dst := fun a => (seatOf p ids a).snd) (ord := ord1 p ids) (sort_d2 h hs) _ (Nat.le_refl _)
  rw [List.take_length] at this; exact this
theorem ord1_len (h : CheckOk p) (hs : SortOk p ids) : (ord1 p ids).length = ids.length := by rw [(ord1_perm h hs).length_eq, idxL_len]
theorem ord2_len (h : CheckOk p) (hs : SortOk p ids) : (ord2 p ids).length = ids.length := by rw [(ord2_perm h hs).length_eq, ord1_len h hs]
theorem row1_len : (row1 p ids).length = p.caps.length := passS_len _ (Nat.le_refl _)
theorem row2_len : (row2 p ids).length = p.caps.length := passS_len _ (Nat.le_refl _)
end
end Go.Ab.S
