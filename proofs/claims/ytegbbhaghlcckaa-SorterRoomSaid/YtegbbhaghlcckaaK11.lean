/- What functions of this program compute, and the laws of what they compute, under the bounds on lengths that each contract states. -/
import Derived.Test.YtegbbhaghlcckaaSG

set_option linter.unusedSimpArgs false
set_option linter.unusedVariables false
namespace Go.Ab.S
open Go Go.Ab Go.Proofs
theorem built_good (b : B4) (x : CaseR) (hx : x.ok) (h : (planF x).2 = 0) : PureCall Try.prog GL 34 [caseAV b x] (.tup [planAV b4F (planF x).1, .sl 4 false ((itemsF x).map itemAV), .raw (.bool true)]) := by
  have := built_ok b x hx
  rw [show builtF x = (((planF x).1, itemsF x), true) by rw [builtF, if_pos h]] at this
  exact this
theorem built_bad (b : B4) (x : CaseR) (hx : x.ok) (h : ¬ (planF x).2 = 0) : PureCall Try.prog GL 34 [caseAV b x] (.tup [planAV b4F (planF x).1, .sl 4 false (([] : List ItemR).map itemAV), .raw (.bool false)]) := by
  have := built_ok b x hx
  rw [show builtF x = (((planF x).1, []), false) by rw [builtF, if_neg h]] at this
  exact this
def twoB3 (p : PlanR) (sw : Int) (l : List ItemR) : BothR := ⟨twoA p sw l, twoB p sw l, (twoB p sw l).rows.flatten⟩
theorem rightF_caps {p : PlanR} (h : CheckOk p) : p.caps.length ≤ 64 := rightF_le h.r
theorem two_okG (b : B4) {p : PlanR} (sw : Int) (b2 : Fl) {l : List ItemR} (h : CheckOk p) (h0 : 0 ≤ sw) (h1 : sw ≤ 1000) (hl : l.length ≤ 2000) (hd : (l.map (·.id)).Nodup) (hi : ∀ a ∈ l.map (·.id), 1 ≤ a ∧ a ≤ 999999) :
    PureCall Try.prog GL 26 [planAV b p, .raw (.int .i64 sw), .sl 4 b2 (l.map itemAV)] (.tup [bothAV (twoB3 p sw l), .raw (.int .i64 0)]) := by
  have h2 := rightF_le h.r
  have h3 := h.m; have h4 := h.l1; have h5 := h.l2
  have := two_ok b p (by omega) (by omega) (by omega) (by omega) sw b2 l (by omega)
  rw [two_good h h0 h1 hl hd hi] at this
  exact this
theorem listsT (rows : List (List Int)) (h : rows.length ≤ 100000) (h2 : rows.flatten.length ≤ 1000000) : PureCall Try.prog GL 36 [.sl 1 false (rows.map rowAV), .sl 1 false (rows.map rowAV)] (.raw (.bool true)) := by
  have h3 : ∀ r ∈ rows, r.length ≤ 4611686018427387904 := fun r hr => by
    have := (List.sublist_flatten_of_mem hr).length_le; omega
  have := lists_ok false rows (by omega) false rows (by omega) h3 h3
  rw [show decide (rows = rows) = true by simp] at this
  exact this
theorem sameT (xs : List Int) (h : xs.length ≤ 1000000) : PureCall Try.prog GL 37 [rowAV xs, rowAV xs] (.raw (.bool true)) := by
  have := sameInts_ok false xs (by omega) false xs (by omega)
  rw [show decide (xs = xs) = true by simp] at this
  exact this
theorem o_lkS {α : Type} {F : Frm} {H : Heap} {x i : Operand} {n : Nat} {f : α → AV} {m : List (Int × α)} {k : Int} {y : α} (hx : evx F x = some (.mp n)) (hH : H[n]? = some (.mapo (mpG f m))) (hi : evx F i = some (.raw (.int .i64 k))) (hy : mget m k = some y) :
    OpOk Try.prog (.lookup 38 x i false) F H (f y) H := by
  have := o_lk (P := Try.prog) (z := intAV 0) mt38 k3 mz3 (fun C => .raw _) hx hH hi false
  simp only [mget_map, hy] at this
  exact this
/-- How many items a pass has, at most. -/
theorem play_small {cs : List Int} {sw : Int} {L : List FeedR} (hr : rightF cs = true) (h0 : 0 ≤ sw) (hin : ∀ x ∈ L, -1 ≤ x.stk ∧ x.stk < cs.length) :
    (playF cs sw L).rows.length = cs.length ∧ (playF cs sw L).swept.length = cs.length ∧ (playF cs sw L).rows.flatten.length + (playF cs sw L).over.length + (playF cs sw L).rej.length = L.length := by
  have h1 := playF_count (sw := sw) h0 (rightF_pos hr).1 (fun x hx => (hin x hx).2)
  have h2 := playS_inv (sw := sw) (rightF_pos hr).1 h0 (fun x hx => (hin x hx).2) L.length (Nat.le_refl _)
  rw [playS_all] at h2
  simp only [allM, List.length_append] at h1
  exact ⟨h2.rows, h2.swept, h1⟩
end Go.Ab.S
