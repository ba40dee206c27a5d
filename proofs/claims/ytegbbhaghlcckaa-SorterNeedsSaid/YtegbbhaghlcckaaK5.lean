/- What functions of this program compute, and the laws of what they compute, under the bounds on lengths that each contract states. -/
import Derived.Test.YtegbbhaghlcckaaK4

set_option linter.unusedSimpArgs false
set_option linter.unusedVariables false
namespace Go.Ab.S
open Go Go.Ab Go.Proofs
theorem need_good (b : Fl) (cs : List Int) (b2 : Fl) (l : List FeedR) (hr : rightF cs = true) (hw : wrongF cs.length l = 0) :
    PureCall Try.prog GL 33 [.sl 1 b (cs.map intAV), .sl 2 b2 (l.map feedAV)] (.tup [.raw (.int .i64 (needN cs l)), .raw (.int .i64 0)]) := by
  have h2 := rightF_le hr
  have h3 := (wrongF_in hw).1
  have := need_ok b cs (by omega) b2 l (by omega)
  rw [show needF cs l = (needN cs l, 0) by rw [needF, if_pos hr, if_pos hw]] at this
  exact this
theorem o_neb {P : Program} {F : Frm} {H : Heap} {t t' : TypeId} {x y : Operand} {b c : Bool} (hu : P.underlying t = some .bool) (hx : evx F x = some (.raw (.bool b))) (hy : evx F y = some (.raw (.bool c))) (e : b = c) : OpOk P (.binOp .neq t x y t') F H (.raw (.bool false)) H := by
  subst e
  exact o_bin hx hy (by simp [rawBin, hu])
theorem u4 : Try.prog.underlying 4 = some .bool := by kernel_rfl
theorem sub_skip {a b : List Int} {i j : Nat} (h : List.Sublist (a.drop i) (b.drop j)) (hi : i < a.length) (hj : j < b.length) (hne : b[j] ≠ a[i]) : List.Sublist (a.drop i) (b.drop (j + 1)) := by
  rw [List.drop_eq_getElem_cons hi, List.drop_eq_getElem_cons hj] at h
  rw [List.drop_eq_getElem_cons hi]
  generalize a[i] = x at h hne ⊢
  generalize b[j] = y at h hne
  cases h with
  | cons _ h => exact h
  | cons_cons _ h => exact absurd rfl hne
theorem sub_in {a b : List Int} {i j : Nat} (h : List.Sublist (a.drop i) (b.drop j)) (hi : i < a.length) : j < b.length := by
  have := h.length_le
  simp at this; omega
theorem sub_next {a b : List Int} {i j : Nat} (h : List.Sublist (a.drop i) (b.drop j)) (hi : i < a.length) : List.Sublist (a.drop (i + 1)) (b.drop j) := by
  rw [List.drop_eq_getElem_cons hi] at h
  exact (List.sublist_cons_self _ _).trans h
end Go.Ab.S
