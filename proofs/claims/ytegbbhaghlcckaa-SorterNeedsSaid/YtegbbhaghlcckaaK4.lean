/- What functions of this program compute, and the laws of what they compute, under the bounds on lengths that each contract states. -/
import Derived.Test.YtegbbhaghlcckaaSE

set_option linter.unusedSimpArgs false
set_option linter.unusedVariables false
namespace Go.Ab.S
open Go Go.Ab Go.Proofs
/-- Where the reading of the events stands. -/
structure EvS where
  i : Nat
  n : Nat
  load : List Int
  s : Int
structure EvI (cs : List Int) (L : List FeedR) (E : List EvR) (q : EvS) : Prop where
  hi : q.i ≤ E.length
  hn : q.n ≤ L.length
  hl : q.load.length = cs.length
  hb : ∀ v ∈ q.load, 0 ≤ v ∧ v ≤ q.i
  hs : 0 ≤ q.s ∧ q.s ≤ 1000
  hE : Ev cs (L.drop q.n) (E.drop q.i) q.load q.s
theorem drop_of {α : Type} {l : List α} {n : Nat} {x : α} {t : List α} (h : l.drop n = x :: t) : ∃ hn : n < l.length, l[n] = x ∧ l.drop (n + 1) = t := by
  have hn : n < l.length := by
    rcases Nat.lt_or_ge n l.length with h' | h'
    · exact h'
    · rw [List.drop_eq_nil_of_le h'] at h; cases h
  rw [List.drop_eq_getElem_cons hn] at h
  cases h
  exact ⟨hn, rfl, rfl⟩
theorem EvI.end {cs : List Int} {L : List FeedR} {E : List EvR} {q : EvS} (h : EvI cs L E q) (he : ¬ q.i < E.length) : q.n = L.length := by
  have h1 := h.hE
  have h0 : E.drop q.i = [] := List.drop_eq_nil_of_le (by omega)
  generalize E.drop q.i = D at h0 h1
  subst h0
  generalize hl : L.drop q.n = l at h1
  cases h1
  have := congrArg List.length hl
  have h2 := h.hn
  simp at this; omega
theorem EvI.at {cs : List Int} {L : List FeedR} {E : List EvR} {q : EvS} (h : EvI cs L E q) (hi : q.i < E.length) :
    ∃ hn : q.n < L.length, E[q.i].item = L[q.n].item ∧ E[q.i].stk = L[q.n].stk ∧
      (E[q.i].kind = 2 → ∃ k : Nat, E[q.i].stk = k ∧ ∃ hk : k < cs.length, ∃ hl : k < q.load.length, q.load[k] = cs[k] ∧ 0 < q.s ∧ (∃ h1 : q.i + 1 < E.length, E[q.i + 1].kind = 1) ∧ EvI cs L E ⟨q.i + 1, q.n, q.load.set k 0, q.s - 1⟩) ∧
      (E[q.i].kind = 1 → ∃ k : Nat, E[q.i].stk = k ∧ ∃ hk : k < cs.length, ∃ hl : k < q.load.length, q.load[k] ≠ cs[k] ∧ EvI cs L E ⟨q.i + 1, q.n + 1, q.load.set k (q.load[k] + 1), q.s⟩) ∧
      (E[q.i].kind = 3 → ∃ k : Nat, E[q.i].stk = k ∧ ∃ hk : k < cs.length, ∃ hl : k < q.load.length, q.load[k] = cs[k] ∧ q.s = 0 ∧ EvI cs L E ⟨q.i + 1, q.n + 1, q.load, q.s⟩) ∧
      (E[q.i].kind = 4 → E[q.i].stk = -1 ∧ EvI cs L E ⟨q.i + 1, q.n + 1, q.load, q.s⟩) ∧ (E[q.i].kind = 1 ∨ E[q.i].kind = 2 ∨ E[q.i].kind = 3 ∨ E[q.i].kind = 4) := by
  obtain ⟨g1, g2, g3, g4, g5, g6⟩ := h
  have hb1 : ∀ v ∈ q.load, 0 ≤ v ∧ v ≤ (q.i + 1 : Nat) := fun v hv => by have := g4 v hv; omega
  generalize hd : E.drop q.i = D at g6
  generalize hl : L.drop q.n = l at g6
  cases g6 with
  | done =>
    have := congrArg List.length hd
    simp at this; omega
  | swept hx hk hlk hs he hh =>
    rename_i x l e E' k
    obtain ⟨hi', e1, e2⟩ := drop_of hd
    obtain ⟨hn, f1, f2⟩ := drop_of hl
    obtain ⟨hi2, e3, e4⟩ := drop_of e2
    refine ⟨hn, by rw [e1, f1], by rw [e1, f1]; exact hx.symm, fun _ => ⟨k, by rw [e1], hk, by omega, ?_, hs, ⟨hi2, by rw [e3]; exact he⟩, ?_⟩, ?_, ?_, ?_, ?_⟩
    · rw [getDi (by omega), getDi hk] at hlk; exact hlk
    · refine ⟨by dsimp only; omega, g2, by simp [g3], fun v hv => ?_, by dsimp only; omega, ?_⟩
      · rcases mem_set_or hv with hv | rfl
        · exact hb1 v hv
        · dsimp only; omega
      · dsimp only; rw [e2, hl]; exact hh
    all_goals (rw [e1]; simp)
  | stacked hx hk hlk hh =>
    rename_i x l E' k
    obtain ⟨hi', e1, e2⟩ := drop_of hd
    obtain ⟨hn, f1, f2⟩ := drop_of hl
    refine ⟨hn, by rw [e1, f1], by rw [e1, f1]; exact hx.symm, ?_, fun _ => ⟨k, by rw [e1], hk, by omega, ?_, ?_⟩, ?_, ?_, ?_⟩
    rotate_left
    · rw [getDi (by omega), getDi hk] at hlk; exact hlk
    · refine ⟨by dsimp only; omega, by dsimp only; omega, by simp [g3], fun v hv => ?_, g5, ?_⟩
      · rcases mem_set_or hv with hv | rfl
        · exact hb1 v hv
        · have := g4 _ (List.getElem_mem (show k < q.load.length by omega)); dsimp only; omega
      · dsimp only; rw [e2, f2, ← getDi (show k < q.load.length by omega)]; exact hh
    all_goals (rw [e1]; simp)
  | over hx hk hlk hs hh =>
    rename_i x l E' k
    obtain ⟨hi', e1, e2⟩ := drop_of hd
    obtain ⟨hn, f1, f2⟩ := drop_of hl
    refine ⟨hn, by rw [e1, f1], by rw [e1, f1]; exact hx.symm, ?_, ?_, fun _ => ⟨k, by rw [e1], hk, by omega, ?_, hs, ?_⟩, ?_, ?_⟩
    rotate_left 2
    · rw [getDi (by omega), getDi hk] at hlk; exact hlk
    · exact ⟨by dsimp only; omega, by dsimp only; omega, g3, hb1, g5, by dsimp only; rw [e2, f2]; exact hh⟩
    all_goals (rw [e1]; simp)
  | rej hx hh =>
    rename_i x l E'
    obtain ⟨hi', e1, e2⟩ := drop_of hd
    obtain ⟨hn, f1, f2⟩ := drop_of hl
    refine ⟨hn, by rw [e1, f1], by rw [e1, f1]; exact hx.symm, ?_, ?_, ?_, fun _ => ⟨by rw [e1], ?_⟩, ?_⟩
    rotate_left 3
    · exact ⟨by dsimp only; omega, by dsimp only; omega, g3, hb1, g5, by dsimp only; rw [e2, f2]; exact hh⟩
    all_goals (rw [e1]; simp)
theorem EvI.start {cs : List Int} {L : List FeedR} {sw : Int} (hpos : ∀ c ∈ cs, 1 ≤ c) (hin : ∀ x ∈ L, -1 ≤ x.stk ∧ x.stk < cs.length) (h0 : 0 ≤ sw) (h1 : sw ≤ 1000) : EvI cs L (playF cs sw L).ev ⟨0, 0, List.replicate cs.length 0, sw⟩ :=
  ⟨by simp, by simp, by simp, fun v hv => by simp [List.mem_replicate] at hv; dsimp only; omega, ⟨h0, h1⟩, play_ev hpos hin h0⟩
end Go.Ab.S
