/- What functions of this program compute, and the laws of what they compute, under the bounds on lengths that each contract states. -/
import Derived.Test.YtegbbhaghlcckaaK11

set_option linter.unusedSimpArgs false
set_option linter.unusedVariables false
namespace Go.Ab.S
open Go Go.Ab Go.Proofs
/-! ### what is refused -/
theorem diffF_dup {xs : List Int} (h : ¬ xs.Nodup) : diffF xs = false := by
  simp only [diffF, Bool.and_eq_false_iff, decide_eq_false_iff_not]; exact .inl h
theorem diffF_out {xs : List Int} {a : Int} (h : a ∈ xs) (h2 : a < 1 ∨ 999999 < a) : diffF xs = false := by
  simp only [diffF, Bool.and_eq_false_iff]
  right
  rw [List.all_eq_false]
  exact ⟨a, h, by simp; omega⟩
theorem wrongF_stk {n : Nat} {l : List FeedR} (h : l.length ≤ 2000) {x : FeedR} (hx : x ∈ l) (hb : x.stk < -1 ∨ (n : Int) ≤ x.stk) : wrongF n l = 291 := by
  rw [wrongF, if_neg (by omega), if_pos]
  rw [List.any_eq_true]
  exact ⟨x, hx, by simp [badF]; omega⟩
theorem wrongF_dif {n : Nat} {l : List FeedR} (h : l.length ≤ 2000) (hd : diffF (l.map (·.item)) = false) : wrongF n l = 291 := by
  rw [wrongF, if_neg (by omega)]
  split
  · rfl
  · rw [if_neg (by rw [hd]; decide)]
def four (cs : List Int) (L : List FeedR) (k : Nat) : List FeedR := [⟨(L.getD k ⟨0, 0⟩).item, cs.length⟩, ⟨(L.getD k ⟨0, 0⟩).item, -2⟩, ⟨(L.getD 0 ⟨0, 0⟩).item, -1⟩, ⟨0, 0⟩]
theorem set_dup {α : Type} {l : List α} {k : Nat} (hk : k < l.length) (h0 : 0 < k) : ¬ (l.set k (l[0]'(by omega))).Nodup := by
  intro h
  have := (List.pairwise_iff_getElem.1 h) 0 k (by simp; omega) (by simpa using hk) h0
  rw [List.getElem_set_self, List.getElem_set_ne (by omega)] at this
  exact this rfl
theorem four_bad {cs : List Int} {L : List FeedR} {k : Nat} (hk : k < L.length) (hl : L.length ≤ 2000) {y : FeedR} (hy : y ∈ four cs L k) (hne : ¬ (k = 0 ∧ y.item = (L.getD 0 ⟨0, 0⟩).item ∧ y.stk = -1)) : wrongF cs.length (L.set k y) = 291 := by
  have hm : y ∈ L.set k y := List.mem_iff_getElem.2 ⟨k, by simpa using hk, by simp⟩
  have hl' : (L.set k y).length ≤ 2000 := by simpa using hl
  simp only [four, List.mem_cons, List.not_mem_nil, or_false] at hy
  rcases hy with rfl | rfl | rfl | rfl
  · exact wrongF_stk hl' hm (by right; exact Int.le_refl _)
  · exact wrongF_stk hl' hm (by left; show (-2 : Int) < -1; omega)
  · refine wrongF_dif hl' (diffF_dup ?_)
    rw [List.map_set]
    have h0 : 0 < k := by
      rcases Nat.eq_zero_or_pos k with h | h
      · exact absurd ⟨h, rfl, rfl⟩ hne
      · exact h
    have := set_dup (l := L.map (·.item)) (k := k) (by simpa using hk) h0
    rw [List.getElem_map] at this
    simp only [getDg (show 0 < L.length by omega)]
    exact this
  · refine wrongF_dif hl' (diffF_out (a := 0) ?_ (by omega))
    exact List.mem_map.2 ⟨_, hm, rfl⟩
theorem runF_caps {cs : List Int} {sw : Int} {l : List FeedR} (h : rightF cs = false) : runF cs sw l = (emptyM, 290) := by rw [runF, if_neg (by rw [h]; decide)]
theorem runF_sw {cs : List Int} {sw : Int} {l : List FeedR} (h : rightF cs = true) (h2 : sw < 0 ∨ 1000 < sw) : runF cs sw l = (emptyM, 2) := by rw [runF, if_pos h, if_pos h2]
theorem runF_bad {cs : List Int} {sw : Int} {l : List FeedR} {e : Int} (h : rightF cs = true) (h2 : ¬ (sw < 0 ∨ 1000 < sw)) (h3 : wrongF cs.length l = e) (h4 : e ≠ 0) : runF cs sw l = (emptyM, e) := by subst h3; rw [runF, if_pos h, if_neg h2, if_neg h4]
theorem needF_bad {cs : List Int} {l : List FeedR} {e : Int} (h : rightF cs = true) (h3 : wrongF cs.length l = e) (h4 : e ≠ 0) : needF cs l = (0, e) := by subst h3; rw [needF, if_pos h, if_neg h4]
theorem needF_caps {cs : List Int} {l : List FeedR} (h : rightF cs = false) : needF cs l = (0, 290) := by rw [needF, if_neg (by rw [h]; decide)]
theorem wrongF_many {n : Nat} {l : List FeedR} (h : 2000 < l.length) : wrongF n l = 5 := by rw [wrongF, if_pos h]
theorem right_zero {cs : List Int} : rightF (cs ++ [0]) = false := by
  simp only [rightF, Bool.and_eq_false_iff, Bool.not_eq_false']
  right
  rw [List.any_eq_true]
  exact ⟨0, by simp, by simp [badC]⟩
def manyF : List FeedR := List.replicate 2001 ⟨0, 0⟩
def manyI : List ItemR := List.replicate 2001 i0R
def badL (L : List FeedR) : List FeedR := L ++ [⟨1000000, 0⟩]
theorem badL_bad {n : Nat} {L : List FeedR} (h : L.length ≤ 1000) : wrongF n (badL L) = 291 :=
  wrongF_dif (by simp [badL]; omega) (diffF_out (a := 1000000) (by simp [badL]) (by omega))
section
variable {p : PlanR} {l : List ItemR}
theorem twoF_caps {sw : Int} : twoF emptyP sw l = (emptyB, 280) := by
  have : checkF emptyP = (0, 280) := by rfl
  rw [twoF, if_pos (by rw [this]; decide), this]
theorem twoF_sw {sw : Int} (h : CheckOk p) (h2 : sw < 0 ∨ 1000 < sw) : twoF p sw l = (emptyB, 2) := by rw [twoF, if_neg (by rw [check_zero h]; simp), if_pos h2]
theorem twoF_many {sw : Int} (h : CheckOk p) (h2 : ¬ (sw < 0 ∨ 1000 < sw)) (h3 : 2000 < l.length) : twoF p sw l = (emptyB, 5) := by rw [twoF, if_neg (by rw [check_zero h]; simp), if_neg h2, if_pos h3]
theorem twoF_bad {sw : Int} (h : CheckOk p) (h2 : ¬ (sw < 0 ∨ 1000 < sw)) (h3 : ¬ 2000 < l.length) (h4 : diffF (l.map (·.id)) = false) : twoF p sw l = (emptyB, 292) := by rw [twoF, if_neg (by rw [check_zero h]; simp), if_neg h2, if_neg h3, if_neg (by rw [h4]; decide)]
theorem two_zero (h : CheckOk p) (hl : l.length ≤ 1000) : twoF p 0 (l ++ [i0R]) = (emptyB, 292) :=
  twoF_bad h (by omega) (by simp; omega) (diffF_out (a := 0) (by simp [i0R]) (by omega))
def i9R : ItemR := ⟨999, 0, false, false⟩
theorem two_dup (h : CheckOk p) (hl : l.length ≤ 1000) : twoF p 0 (l ++ [i9R, i9R]) = (emptyB, 292) := by
  refine twoF_bad h (by omega) (by simp; omega) (diffF_dup fun hd => ?_)
  rw [List.map_append, List.nodup_append] at hd
  simp [i9R] at hd
end
theorem run_r (b : Fl) (cs : List Int) (hl : cs.length ≤ 1000) (sw : Int) (b2 : Fl) (l : List FeedR) (hl2 : l.length ≤ 100000) {e : Int} (h : runF cs sw l = (emptyM, e)) : PureCall Try.prog GL 29 [.sl 1 b (cs.map intAV), .raw (.int .i64 sw), .sl 2 b2 (l.map feedAV)] (.tup [passAV emptyM, .raw (.int .i64 e)]) := by
  have := run_ok b cs (by omega) sw b2 l (by omega)
  rw [h] at this; exact this
theorem need_r (b : Fl) (cs : List Int) (hl : cs.length ≤ 1000) (b2 : Fl) (l : List FeedR) (hl2 : l.length ≤ 100000) {e : Int} (h : needF cs l = (0, e)) : PureCall Try.prog GL 33 [.sl 1 b (cs.map intAV), .sl 2 b2 (l.map feedAV)] (.tup [.raw (.int .i64 0), .raw (.int .i64 e)]) := by
  have := need_ok b cs (by omega) b2 l (by omega)
  rw [h] at this; exact this
theorem two_r (b : B4) (p : PlanR) (g1 : p.caps.length ≤ 100000) (g2 : p.seats.length ≤ 100000) (g3 : p.first.length ≤ 100000) (g4 : p.second.length ≤ 100000) (sw : Int) (b2 : Fl) (l : List ItemR) (hl : l.length ≤ 100000) {e : Int} (h : twoF p sw l = (emptyB, e)) : PureCall Try.prog GL 26 [planAV b p, .raw (.int .i64 sw), .sl 4 b2 (l.map itemAV)] (.tup [bothAV emptyB, .raw (.int .i64 e)]) := by
  have := two_ok b p g1 g2 g3 g4 sw b2 l (by omega)
  rw [h] at this; exact this
theorem manyF_len : manyF.length = 2001 := by rw [manyF, List.length_replicate]
theorem manyI_len : manyI.length = 2001 := by rw [manyI, List.length_replicate]
theorem manyF_lt : 2000 < manyF.length := by rw [manyF_len]; decide
theorem manyI_lt : 2000 < manyI.length := by rw [manyI_len]; decide
theorem manyF_le : manyF.length ≤ 100000 := by rw [manyF_len]; decide
theorem manyI_le : manyI.length ≤ 100000 := by rw [manyI_len]; decide
theorem manyF_e : 2001 = (manyF.map feedAV).length := by rw [List.length_map, manyF_len]
theorem map_manyF : List.replicate 2001 (feedAV ⟨0, 0⟩) = manyF.map feedAV := by rw [manyF, List.map_replicate]
theorem map_manyI : List.replicate 2001 (itemAV i0R) = manyI.map itemAV := by rw [manyI, List.map_replicate]
end Go.Ab.S
