/- A program logic over the model: contracts of calls, proved from the model alone, without conditions. -/
import Derived.Test.YtghoaglolhdoeaaDoorAb22
set_option linter.unusedSimpArgs false
set_option linter.unusedVariables false
namespace Go.Ab
open Go
section
variable {P : Program} {F : Frm} {H H' : Heap} {x i : Operand} {t : TypeId} {k : IntKind} {n : Int}
theorem o_sx {s : ByteArray} {j : Nat} {b : UInt8} (ht : lenTy P t = some 1) (hx : evx F x = some (.raw (.string s))) (hi : evx F i = some (.raw (.int k n))) (hn : n = (j : Int)) (hj : s[j]? = some b) : OpOk P (.index t x i) F H (.raw (.int .u8 (b.toNat : Int))) H :=
  .still fun K C ρ oo ho hp hH hρ => by
    subst hn
    have h1 : ρ x = .string s := Vl.raw_inv (evx_eq hx ▸ hρ x)
    have h2 : ρ i = .int k j := Vl.raw_inv (evx_eq hi ▸ hρ i)
    have hu : P.underlying t = some .string := by unfold lenTy at ht; split at ht <;> simp at ht; assumption
    refine ⟨.int .u8 (b.toNat : Int), ?_, .raw _⟩
    have h0 : (0 : Int) ≤ (j : Int) := by omega
    simp only [execOp, ho, h1, h2, Instr.index, asIntOf, Sem.run_bind, Sem.run_pure, Result.andThen_ok, run_underlying hu, h0, if_true, Int.toNat_natCast, hj]

/-- A nil slice is taken for an own row. -/
theorem w_own {E : Env} {c : Code} {Q : Exit → Frm → Heap → Prop} {q z N : Nat} (hz : 0 < z) (hk : evx F (.tmp q) = some (.raw (.slice none 0 0))) (hN : H.length = N) (hH : snocX H (.vec z 0 []) = some H') (h : AWp E c Q ((q, .slo N 0 0 0) :: F) H') : AWp E c Q F H := by
  intro K C a h1 h2 h3 h4 h5
  subst h5 hN
  obtain ⟨C', e1, e2, e3, e4, e5⟩ := push_nil h4.hp hz
  rw [← e1]
  refine h K C' a h1 h2 h3 { hp := e3, size := h4.size, fr := fun k x hx => ?_, marks := h4.marks.mono e2 } (by rw [e5, snocX_eq _ _ _ hH])
  simp only [List.lookup_cons] at hx
  split at hx
  · rename_i hkq
    have : k = q := by simpa using hkq
    subst this
    cases hx
    have hv : a.eval (.tmp k) = .slice none 0 0 := Vl.raw_inv (evx_eq hk ▸ ev_ok h4.fr (.tmp k))
    have : a.tmps.getD k undef = .slice none 0 0 := hv
    rw [this]; exact e4
  · exact (h4.fr k x hx).mono e2

/-- A cell of an own variable that holds a nil slice is taken for an own row. -/
theorem w_ownc {E : Env} {c : Code} {Q : Exit → Frm → Heap → Prop} {i j z N : Nat} {cs cs' : List AV} {H1 H2 : Heap} (hz : 0 < z) (hi : nthX H i = some (.var cs)) (hj : nthX cs j = some (.raw (.slice none 0 0))) (hN : H.length = N) (hH : snocX H (.vec z 0 []) = some H1)
    (hcs : setX cs j (.slo N 0 0 0) = some cs') (hH2 : setX H1 i (.var cs') = some H2) (h : AWp E c Q F H2) : AWp E c Q F H := by
  intro K C a h1 h2 h3 h4 h5
  subst h5 hN
  obtain ⟨C', e1, e2, e3, e4, e5⟩ := push_nil h4.hp hz
  obtain ⟨hjl, rfl⟩ := setX_eq _ _ _ _ hcs
  have hH1 := snocX_eq _ _ _ hH
  obtain ⟨hil, rfl⟩ := setX_eq _ _ _ _ hH2
  rw [nthX_eq] at hi hj
  have hi0 := get_lt hi
  have hi' : C'.H[i]? = some (.var cs) := by rw [e5, List.getElem?_append_left hi0]; exact hi
  have hil' := get_lt hi'
  obtain ⟨b, cv, t, g1, g2, g3, g4⟩ := e3.obj i _ hi'
  have := e3.upd C'.w i hil' (.var (cs.set j (.slo C.H.length 0 0 0))) (C'.β i) (C'.κ i) rfl rfl rfl (Nat.le_refl _) (fun _ _ _ => rfl) (.inl rfl) _ rfl (by rw [hi'])
    (fun ex => ⟨b, cv, t, by simp [g1], g2, by simp [g3], fun k x hx => by
      by_cases hk : k = j
      · subst hk
        have hlt := get_lt hj
        rw [List.getElem?_set_self hlt] at hx
        cases hx
        have h5 : cv.getD k undef = .slice none 0 0 := Vl.raw_inv (g4 k _ hj)
        rw [h5]; exact e4.mono ex
      · rw [List.getElem?_set_ne (fun h => hk h.symm)] at hx
        exact (g4 k x hx).mono ex⟩)
  obtain ⟨x1, x2⟩ := this
  rw [← e1]
  exact h K { C' with w := C'.w, H := C'.H.set i (.var (cs.set j (.slo C.H.length 0 0 0))), β := fun k => if k = i then C'.β i else C'.β k, κ := fun k => if k = i then C'.κ i else C'.κ k } a h1 h2 h3
    { hp := x2, size := h4.size, fr := (h4.fr.mono e2).mono x1, marks := (h4.marks.mono e2).mono x1 } (by show C'.H.set _ _ = _; rw [e5, hH1])

theorem good_slo {H : Heap} {i ver off len z : Nat} {es : List AV} (h : nthX H i = some (.vec z ver es)) : (AV.slo i ver off len).goodPart H = true := by
  rw [nthX_eq] at h
  simp [AV.goodPart, AV.good, AV.isCell, fresh, h]

/-- Nil slices among the arguments, told as empty ones. -/
def NilL : List AV → List AV → Prop
  | [], [] => True
  | x :: xs, y :: ys => (x = y ∨ (x = .raw (.slice none 0 0) ∧ ∃ z b, 0 < z ∧ y = .sl z b [])) ∧ NilL xs ys
  | _, _ => False
theorem NilL.args {C : Ctx} : ∀ {xs ys : List AV} (g : Nat → Value), NilL xs ys → (∀ (k : Nat) (x : AV), xs[k]? = some x → Vl C x (g k)) → ys.length = xs.length ∧ ∀ (k : Nat) (y : AV), ys[k]? = some y → Vl C y (g k)
  | [], [], g, _, _ => ⟨rfl, fun k y h => by simp at h⟩
  | [], _ :: _, g, h, _ => h.elim
  | _ :: _, [], g, h, _ => h.elim
  | x :: xs, y :: ys, g, h, hx => by
    obtain ⟨h1, h2⟩ := NilL.args (fun k => g (k + 1)) h.2 (fun k z hz => hx (k + 1) z (by simpa using hz))
    refine ⟨by simp [h1], fun k z hz => ?_⟩
    cases k with
    | succ k => exact h2 k z (by simpa using hz)
    | zero =>
      simp at hz; subst hz
      rcases h.1 with rfl | ⟨rfl, z, b, hz, rfl⟩
      · exact hx 0 _ rfl
      · have := hx 0 _ rfl
        have e : g 0 = .slice none 0 0 := Vl.raw_inv this
        rw [e]
        exact .sl (es := []) (fun _ => undef) hz (Nat.le_refl _) (fun _ => rfl) (fun _ => rfl) (fun e he => by cases he) (fun x hx => by cases hx) (fun k x hx => by simp [flat] at hx)
theorem CallS.nils {G : List (Nat × List Value)} {f : FuncId} {args args' : List AV} {R : AV → Heap → Prop} (hn : NilL args args') (h : CallS P G f args' H R) : CallS P G f args H R :=
  fun K C vs h1 h2 h3 h4 => by
    have := hn.args (fun k => vs.getD k undef) h4.2
    exact h K C vs h1 h2 h3 ⟨by rw [this.1]; exact h4.1, this.2⟩
section
variable {E : Env} {ops : Array Oper} {Q : Frm → Heap → Prop} {rest : List Oper} {d : Tmp} {p : String} {af : Array Edge} {g : Option (Nat × Bool)} {c : Operand} {xs : Array Operand} {tys : Array TypeId} {f : FuncId} {first caps vs vs' : List AV} {r : AV}
theorem a_pureN (hg : gd ops F g = some true) (hc : evx F c = some (.fn f first caps)) (hx : evs F xs.toList = some vs) (hca : callable E.P f = true)
    (h : PureCall E.P E.G f vs' r) (hn : NilL (first ++ vs ++ caps) vs') (k : AOps E ops Q rest ((d, r) :: F) H) :
    AOps E ops Q (⟨some d, .call { callee := .value c, args := xs, argTypes := tys }, t, p, af, g⟩ :: rest) F H :=
  a_step hg (callP rfl hc hx hca (CallS.nils hn (CallS.pure h.pargs (R := (· = r)) (fun _ e => e ▸ h.res) h.call H)) (by rintro r H' ⟨rfl, rfl⟩; exact k))
theorem a_pureNb {b : Bool} (hg : gd ops F g = some true) (hc : evx F c = some (.fn f first caps)) (hx : evs F xs.toList = some vs) (hca : callable E.P f = true)
    (h : PureCall E.P E.G f vs' (.raw (.bool b))) (hn : NilL (first ++ vs ++ caps) vs') (kt : b = true → AOps E ops Q rest ((d, .raw (.bool true)) :: F) H) (kf : b = false → AOps E ops Q rest ((d, .raw (.bool false)) :: F) H) :
    AOps E ops Q (⟨some d, .call { callee := .value c, args := xs, argTypes := tys }, t, p, af, g⟩ :: rest) F H := by
  refine a_pureN hg hc hx hca h hn ?_
  cases b
  · exact kf rfl
  · exact kt rfl
end
end
end Go.Ab
