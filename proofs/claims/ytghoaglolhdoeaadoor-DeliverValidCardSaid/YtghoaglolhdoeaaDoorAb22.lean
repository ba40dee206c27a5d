/- A program logic over the model: contracts of calls, proved from the model alone, without conditions. -/
import Derived.Test.YtghoaglolhdoeaaDoorAb21
set_option linter.unusedSimpArgs false
set_option linter.unusedVariables false
namespace Go.Ab
open Go

/-! ### own memory behind a bound is let go -/
/-- Slot by slot. -/
def RsFr (H : Heap) (keep : Nat → Prop) (F : Frm) : Frm → Prop
  | [] => True
  | (k, x) :: F1 => (∃ y, evx F (.tmp k) = some y ∧ Rs H keep y x) ∧ RsFr H keep F F1
theorem RsFr.get {H : Heap} {keep : Nat → Prop} {F : Frm} : ∀ {F1 : Frm}, RsFr H keep F F1 → ∀ k x, F1.lookup k = some x → Rs H keep (ev F (.tmp k)) x
  | [], _, k, x, h => by simp at h
  | (k', x') :: F1, h, k, x, hl => by
    simp only [List.lookup_cons] at hl
    split at hl
    · rename_i hk
      have : k = k' := by simpa using hk
      subst this
      cases hl
      obtain ⟨y, h1, h2⟩ := h.1
      rw [evx_eq h1]; exact h2
    · exact RsFr.get h.2 k x hl

/-- Object by object. -/
def ORsL (H : Heap) (keep : Nat → Prop) : Heap → Heap → Prop
  | _, [] => True
  | [], _ :: _ => False
  | o :: l, o' :: l' => ORs H keep o o' ∧ ORsL H keep l l'
theorem ORsL.get {H : Heap} {keep : Nat → Prop} : ∀ {l l' : Heap}, ORsL H keep l l' → ∀ (i : Nat) (o o' : AObj), l[i]? = some o → l'[i]? = some o' → ORs H keep o o'
  | _, [], _, i, o, o', _, h => by simp at h
  | [], _ :: _, h, _, _, _, _, _ => h.elim
  | o :: l, o' :: l', h, 0, _, _, h1, h2 => by simp at h1 h2; subst h1; subst h2; exact h.1
  | o :: l, o' :: l', h, i + 1, _, _, h1, h2 => ORsL.get h.2 i _ _ (by simpa using h1) (by simpa using h2)
theorem ors_var {H : Heap} {keep : Nat → Prop} {cs cs' : List AV} (h : RsL H keep cs cs') : ORs H keep (.var cs) (.var cs') := .var h.len h.get
theorem ors_loop {H : Heap} {keep : Nat → Prop} {l : LoopA} {F' : Frm} (h : RsFr H keep l.F F') : ORs H keep (.loopo l) (.loopo { l with F := F' }) := .loopo h.get
theorem ors_vec {H : Heap} {keep : Nat → Prop} {z ver : Nat} {es : List AV} (h : ∀ x ∈ es, Pur x) : ORs H keep (.vec z ver es) (.vec z ver es) :=
  .vec rfl (fun k x x' h1 h2 => by rw [h1] at h2; cases h2; rfl) (fun k x x' h1 h2 => by rw [h1] at h2; cases h2; exact (h x (mem_get h1)).rs)

theorem w_view {E : Env} {c : Code} {Q : Exit → Frm → Heap → Prop} {F : Frm} {H : Heap} (F1 : Frm) (H1 : Heap) (n : Nat) (hn : H1.length = n) (h0 : E.n0 ≤ n) (hle : n ≤ H.length) (hF : RsFr H (· < n) F F1) (hO : ORsL H (· < n) H H1) (h : AWp E c Q F1 H1) : AWp E c Q F H := by
  refine awp_view (· < n) (F' := F1) (H' := H1) ?_ h
  exact
    { fr := hF.get
      len := by omega
      low := by omega
      k0 := fun i hi => by omega
      dead := fun i hi => .inl (by omega)
      lt := fun i hi => by omega
      obj := fun i o o' _ h1 h2 => hO.get i o o' h1 h2 }

/-- The answer of a round. -/
theorem q_next {i : Nat} {K' : AV → Heap → Prop} {F : Frm} {H : Heap} {l : LoopA} (hi : nthX H i = some (.loopo l)) {H' : Heap} (hs : setX H i (.loopo { l with state := .ready, pending := none }) = some H') (h : K' (.raw (.bool true)) H') : roundQ i K' .normal F H := by
  obtain ⟨_, rfl⟩ := setX_eq _ _ _ _ hs
  exact ⟨l, (nthX_eq _ _).symm.trans hi, h⟩

/-- yield, as a step. -/
theorem a_yield {E : Env} {ops : Array Oper} {Q : Frm → Heap → Prop} {rest : List Oper} {F : Frm} {H : Heap} {d : Tmp} {t : TypeId} {p : String} {af : Array Edge} {g : Option (Nat × Bool)} {c : Operand} {xs : Array Operand} {tys : Array TypeId} {i N : Nat} {l : LoopA} {vs : List AV}
    (hg : gd ops F g = some true) (hc : evx F c = some (.yl i)) (hx : evs F xs.toList = some vs) (hi : nthX H i = some (.loopo l)) (hs : l.state = .ready) (hsz : xs.size = l.params.size) (hp : l.params.toList.all (· < l.N) = true) (hN : H.length = N)
    (h : AWp ⟨E.P, E.G, N, l.N, true⟩ l.assign (thenQ (fun F2 H2 => ∃ l2, nthX H2 i = some (.loopo l2) ∧ l2.state = .ready ∧ l2.body = l.body ∧ ∃ H3, setX H2 i (.loopo { l2 with state := .busy }) = some H3 ∧
        AWp ⟨E.P, E.G, N, l.N, true⟩ l.body (roundQ i (fun v H' => AOps E ops Q rest ((d, v) :: F) H')) F2 H3) (fun _ _ _ => False)) (putAll l.F l.params.toList vs) H) :
    AOps E ops Q (⟨some d, .call { callee := .value c, args := xs, argTypes := tys }, t, p, af, g⟩ :: rest) F H := by
  subst hN
  refine a_step hg (.yield c xs tys i l rfl (evx_eq hc) ((nthX_eq _ _).symm.trans hi) hs hsz hp ?_)
  rw [evs_eq hx]
  refine awp_mono h fun e F2 H2 he => ?_
  cases e with
  | normal =>
    obtain ⟨l2, h1, h2, h3, H3, h4, h5⟩ := he
    obtain ⟨_, rfl⟩ := setX_eq _ _ _ _ h4
    exact ⟨l2, (nthX_eq _ _).symm.trans h1, h2, h3, h5⟩
  | _ => exact he

/-- What follows a range over a function that came to its end. -/
theorem after_end {E : Env} {Q : Exit → Frm → Heap → Prop} {F : Frm} {i : Nat} {H H' : Heap} {l : LoopA} (hi : nthX H i = some (.loopo l)) (hs : l.state = .ready) (hp : l.pending = none) (hH : setX H i (.loopo { l with state := .exhausted }) = some H') (h : Q .normal F H') : afterLoop E Q F i H := by
  obtain ⟨_, rfl⟩ := setX_eq _ _ _ _ hH
  obtain ⟨st, pe, F0, N, ps, as, bd⟩ := l
  dsimp only at hs hp
  subst hs hp
  exact ⟨_, (nthX_eq _ _).symm.trans hi, (fun h => nomatch h), h⟩
end Go.Ab
