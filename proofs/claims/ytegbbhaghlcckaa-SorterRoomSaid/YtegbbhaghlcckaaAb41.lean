/- What functions of this program compute, and the laws of what they compute, under the bounds on lengths that each contract states. -/
import Derived.Test.YtegbbhaghlcckaaAb40
import Derived.Test.YtegbbhaghlcckaaGD
import Derived.Test.YtegbbhaghlcckaaAb38
import Derived.Test.YtegbbhaghlcckaaAb39

set_option linter.unusedSimpArgs false
set_option linter.unusedVariables false
namespace Go.Ab
open Go
/-! ### A view that seals some objects in between -/
def ORsK (H : Heap) (keep : Nat → Prop) : List Bool → Heap → Heap → Prop
  | [], _, [] => True
  | true :: ks, o :: l, o' :: l' => ORs H keep o o' ∧ ORsK H keep ks l l'
  | false :: ks, _ :: l, o' :: l' => o' = .dead ∧ ORsK H keep ks l l'
  | _, _, _ => False
theorem ORsK.get {H : Heap} {keep : Nat → Prop} : ∀ {ks : List Bool} {l l' : Heap}, ORsK H keep ks l l' → l'.length = ks.length ∧ l'.length ≤ l.length ∧ (∀ i : Nat, ks[i]? = some false → l'[i]? = some AObj.dead) ∧ ∀ (i : Nat) (o o' : AObj), ks[i]? = some true → l[i]? = some o → l'[i]? = some o' → ORs H keep o o'
  | [], l, [], _ => ⟨rfl, Nat.zero_le _, fun i h => by simp at h, fun i o o' h => by simp at h⟩
  | [], _, _ :: _, h => by simp [ORsK] at h
  | true :: ks, [], _, h => by simp [ORsK] at h
  | false :: ks, [], _, h => by simp [ORsK] at h
  | true :: ks, _ :: _, [], h => by simp [ORsK] at h
  | false :: ks, _ :: _, [], h => by simp [ORsK] at h
  | true :: ks, a :: l, a' :: l', h => by
    obtain ⟨h1, h2, h3, h4⟩ := ORsK.get h.2
    refine ⟨by simp [h1], by simpa using h2, fun i hi => ?_, fun i o o' hi e e' => ?_⟩
    · cases i with
      | zero => simp at hi
      | succ i => simpa using h3 i (by simpa using hi)
    · cases i with
      | zero => simp at e e'; subst e e'; exact h.1
      | succ i => exact h4 i o o' (by simpa using hi) (by simpa using e) (by simpa using e')
  | false :: ks, a :: l, a' :: l', h => by
    obtain ⟨h1, h2, h3, h4⟩ := ORsK.get h.2
    refine ⟨by simp [h1], by simpa using h2, fun i hi => ?_, fun i o o' hi e e' => ?_⟩
    · cases i with
      | zero => simpa using h.1
      | succ i => simpa using h3 i (by simpa using hi)
    · cases i with
      | zero => simp at hi
      | succ i => exact h4 i o o' (by simpa using hi) (by simpa using e) (by simpa using e')
theorem w_viewD {E : Env} {c : Code} {Q : Exit → Frm → Heap → Prop} {F : Frm} {H : Heap} (F1 : Frm) (H1 : Heap) (ks : List Bool) (h0 : E.n0 = 0) (hF : RsFr H (fun i => ks[i]? = some true) F F1) (hO : ORsK H (fun i => ks[i]? = some true) ks H H1) (h : AWp E c Q F1 H1) : AWp E c Q F H := by
  obtain ⟨h1, h2, h3, h4⟩ := hO.get
  refine awp_view (fun i => ks[i]? = some true) (F' := F1) (H' := H1) ?_ h
  exact
    { fr := hF.get
      len := h2
      low := by omega
      k0 := fun i hi => by omega
      dead := fun i hi => by
        have : i < ks.length := by omega
        cases hk : ks[i] with
        | true => exact .inl (by simp [hk, this])
        | false => exact .inr (h3 i (by simp [hk, this]))
      lt := fun i hi => by have := get_lt hi; omega
      obj := fun i o o' hi e e' => h4 i o o' hi e e' }
end Go.Ab
