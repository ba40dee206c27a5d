/- A program logic over the model: contracts of calls, proved from the model alone, without conditions. -/
import Derived.Test.YtghoaglolhdoeaaDoorAb15
set_option linter.unusedSimpArgs false
set_option linter.unusedVariables false
namespace Go.Ab
open Go

/-! Rules for stepping, in a form that 'rfl' can fill in. -/

def look : Frm → Nat → Option AV
  | [], _ => none
  | (k, v) :: F, t => bif Nat.beq t k then some v else look F t

theorem look_eq (t : Nat) : ∀ F : Frm, look F t = F.lookup t
  | [] => rfl
  | (k, v) :: F => by
    simp only [look, List.lookup_cons, look_eq t F]
    by_cases h : t = k
    · subst h; simp
    · have h1 : Nat.beq t k = false := by
        cases hb : Nat.beq t k with
        | false => rfl
        | true => exact absurd (Nat.eq_of_beq_eq_true hb) h
      have h2 : (t == k) = false := by simpa using h
      rw [h1, h2]; rfl

def evx (F : Frm) : Operand → Option AV
  | .tmp t => match look F t with | some v => some v | none => some .any
  | .const v => match v with | .agg cs => some (.agg (cs.toList.map .raw)) | v => some (.raw v)
  | .global g => some (.raw (.pointer (some ⟨g, 0, none⟩)))
  | .func f => some (.fn f [] [])

theorem evx_eq {F : Frm} {x : Operand} {v : AV} (h : evx F x = some v) : ev F x = v := by
  cases x with
  | tmp t =>
    simp only [evx, look_eq] at h
    simp only [ev]
    split at h <;> cases h <;> rename_i hq <;> simp [hq]
  | const c => cases c <;> simp only [evx] at h <;> cases h <;> rfl
  | global g => cases h; rfl
  | func f => cases h; rfl

theorem evx_iff {F : Frm} {x : Operand} : evx F x = some (ev F x) := by
  cases h : evx F x with
  | some v => rw [evx_eq h]
  | none =>
    cases x with
    | tmp t => simp only [evx] at h; split at h <;> cases h
    | const c => cases c <;> simp [evx] at h
    | global g => cases h
    | func f => cases h

def evs (F : Frm) : List Operand → Option (List AV)
  | [] => some []
  | x :: xs => match evx F x with
    | some v => match evs F xs with
      | some vs => some (v :: vs)
      | none => none
    | none => none

theorem evs_eq {F : Frm} : ∀ {xs : List Operand} {vs : List AV}, evs F xs = some vs → xs.map (ev F) = vs
  | [], vs, h => by cases h; rfl
  | x :: xs, vs, h => by
    simp only [evs] at h
    cases h1 : evx F x with
    | none => rw [h1] at h; cases h
    | some v =>
      rw [h1] at h
      cases h2 : evs F xs with
      | none => rw [h2] at h; cases h
      | some ws => rw [h2] at h; cases h; rw [List.map_cons, evx_eq h1, evs_eq h2]

/-! ### the operations of a region -/
section
variable {E : Env} {ops : Array Oper} {Q : Frm → Heap → Prop} {rest : List Oper} {F : Frm} {H H' : Heap} {op : Op} {d : Tmp} {t : TypeId} {p : String} {af : Array Edge} {g : Option (Nat × Bool)} {v : AV}

theorem a_nil (h : Q F H) : AOps E ops Q [] F H := h

theorem a_step (hg : gd ops F g = some true) (h : StepP E ⟨some d, op, t, p, af, g⟩ F H (fun v H' => AOps E ops Q rest ((d, v) :: F) H')) : AOps E ops Q (⟨some d, op, t, p, af, g⟩ :: rest) F H :=
  ⟨true, hg, fun _ => h, fun h => (by cases h)⟩
theorem a_step0 (hg : gd ops F g = some true) (h : StepP E ⟨none, op, t, p, af, g⟩ F H (fun _ H' => AOps E ops Q rest F H')) : AOps E ops Q (⟨none, op, t, p, af, g⟩ :: rest) F H :=
  ⟨true, hg, fun _ => h, fun h => (by cases h)⟩

theorem a_op (hg : gd ops F g = some true) (h : OpOk E.P op F H v H') (k : AOps E ops Q rest ((d, v) :: F) H') : AOps E ops Q (⟨some d, op, t, p, af, g⟩ :: rest) F H :=
  a_step hg (.op v H' h.g k)
theorem a_op0 (hg : gd ops F g = some true) (h : OpOk E.P op F H v H') (k : AOps E ops Q rest F H') : AOps E ops Q (⟨none, op, t, p, af, g⟩ :: rest) F H :=
  a_step0 hg (.op v H' h.g k)
theorem a_off (hg : gd ops F g = some false) (k : AOps E ops Q rest ((d, .raw undef) :: F) H) : AOps E ops Q (⟨some d, op, t, p, af, g⟩ :: rest) F H :=
  ⟨false, hg, fun h => (by cases h), fun _ => k⟩
theorem a_off0 (hg : gd ops F g = some false) (k : AOps E ops Q rest F H) : AOps E ops Q (⟨none, op, t, p, af, g⟩ :: rest) F H :=
  ⟨false, hg, fun h => (by cases h), fun _ => k⟩
theorem a_opg (hg : gd ops F g = some true) (h : OpG E.P E.G op F H v H') (k : AOps E ops Q rest ((d, v) :: F) H') : AOps E ops Q (⟨some d, op, t, p, af, g⟩ :: rest) F H :=
  a_step hg (.op v H' h k)
/-- A truth is split. -/
theorem a_if {q : Prop} [Decidable q] (hg : gd ops F g = some true) (h : OpOk E.P op F H (.raw (.bool (decide q))) H') (kt : q → AOps E ops Q rest ((d, .raw (.bool true)) :: F) H')
    (kf : ¬ q → AOps E ops Q rest ((d, .raw (.bool false)) :: F) H') : AOps E ops Q (⟨some d, op, t, p, af, g⟩ :: rest) F H := by
  refine a_op hg h ?_
  by_cases hq : q
  · rw [show decide q = true from decide_eq_true hq]; exact kt hq
  · rw [show decide q = false from decide_eq_false hq]; exact kf hq
theorem a_ifb {b : Bool} (hg : gd ops F g = some true) (h : OpOk E.P op F H (.raw (.bool b)) H') (kt : b = true → AOps E ops Q rest ((d, .raw (.bool true)) :: F) H')
    (kf : b = false → AOps E ops Q rest ((d, .raw (.bool false)) :: F) H') : AOps E ops Q (⟨some d, op, t, p, af, g⟩ :: rest) F H := by
  refine a_op hg h ?_
  cases b
  · exact kf rfl
  · exact kt rfl
end

/-! ### a pure function's contract -/

/-- With these data 'f' answers 'r', and leaves nothing. -/
structure PureCall (P : Program) (G : List (Nat × List Value)) (f : FuncId) (args : List AV) (r : AV) : Prop where
  pargs : ∀ x ∈ args, Pur x
  res : Pur r
  call : ACall P G f args [] (fun r' H' => r' = r ∧ H' = [])

section
variable {E : Env} {ops : Array Oper} {Q : Frm → Heap → Prop} {rest : List Oper} {F : Frm} {H : Heap} {d : Tmp} {t : TypeId} {p : String} {af : Array Edge} {g : Option (Nat × Bool)}
  {c : Operand} {xs : Array Operand} {tys : Array TypeId} {f : FuncId} {first caps vs : List AV} {r : AV}

theorem callP {K' : AV → Heap → Prop} {o : Oper} {R : AV → Heap → Prop} (ho : o.op = .call { callee := .value c, args := xs, argTypes := tys }) (hc : evx F c = some (.fn f first caps)) (hx : evs F xs.toList = some vs) (hca : callable E.P f = true)
    (h : CallS E.P E.G f (first ++ vs ++ caps) H R) (k : ∀ r H', R r H' → K' r H') : StepP E o F H K' :=
  .call c xs tys f first caps R ho (evx_eq hc) hca (by rw [evs_eq hx]; exact h) k

theorem a_pure (hg : gd ops F g = some true) (hc : evx F c = some (.fn f first caps)) (hx : evs F xs.toList = some vs) (hca : callable E.P f = true)
    (h : PureCall E.P E.G f (first ++ vs ++ caps) r) (k : AOps E ops Q rest ((d, r) :: F) H) :
    AOps E ops Q (⟨some d, .call { callee := .value c, args := xs, argTypes := tys }, t, p, af, g⟩ :: rest) F H :=
  a_step hg (callP rfl hc hx hca (CallS.pure h.pargs (R := (· = r)) (fun _ e => e ▸ h.res) h.call H) (by rintro r H' ⟨rfl, rfl⟩; exact k))

theorem a_pureb {b : Bool} (hg : gd ops F g = some true) (hc : evx F c = some (.fn f first caps)) (hx : evs F xs.toList = some vs) (hca : callable E.P f = true)
    (h : PureCall E.P E.G f (first ++ vs ++ caps) (.raw (.bool b))) (kt : b = true → AOps E ops Q rest ((d, .raw (.bool true)) :: F) H) (kf : b = false → AOps E ops Q rest ((d, .raw (.bool false)) :: F) H) :
    AOps E ops Q (⟨some d, .call { callee := .value c, args := xs, argTypes := tys }, t, p, af, g⟩ :: rest) F H := by
  refine a_pure hg hc hx hca h ?_
  cases b
  · exact kf rfl
  · exact kt rfl

theorem a_call {R : AV → Heap → Prop} (hg : gd ops F g = some true) (hc : evx F c = some (.fn f first caps)) (hx : evs F xs.toList = some vs) (hca : callable E.P f = true)
    (h : CallS E.P E.G f (first ++ vs ++ caps) H R) (k : ∀ r H', R r H' → AOps E ops Q rest ((d, r) :: F) H') :
    AOps E ops Q (⟨some d, .call { callee := .value c, args := xs, argTypes := tys }, t, p, af, g⟩ :: rest) F H :=
  a_step hg (callP rfl hc hx hca h k)
end

/-! ### codes -/
section
variable {E : Env} {Q : Exit → Frm → Heap → Prop} {F : Frm} {H : Heap}

theorem w_reg {id : Nat} {ops : Array Oper} {l : List Oper} (hl : ops.toList = l) (hd : dstOk E.N ops.toList = true ∧ ops.toList.all (fun o => noDefer o.op) = true) (h : AOps E ops (Q .normal) l F H) : AWp E (.region id ops false) Q F H :=
  awp_region hd.1 hd.2 (hl ▸ h)

theorem tq_n {next : Frm → Heap → Prop} (h : next F H) : thenQ next Q .normal F H := h
theorem tq_x {next : Frm → Heap → Prop} {id : Nat} (h : Q (.exit id) F H) : thenQ next Q (.exit id) F H := h
theorem tq_r {next : Frm → Heap → Prop} (h : Q .ret F H) : thenQ next Q .ret F H := h
theorem bq_n {id : Nat} (h : Q .normal F H) : blockQ id Q .normal F H := h
theorem bq_r {id : Nat} (h : Q .ret F H) : blockQ id Q .ret F H := h
theorem bq_hit {id : Nat} (h : Q .normal F H) : blockQ id Q (.exit id) F H := by simp [blockQ, h]
theorem bq_miss {id id' : Nat} (hne : Nat.beq id' id = false) (h : Q (.exit id') F H) : blockQ id Q (.exit id') F H := by
  have : id' ≠ id := fun e => by subst e; simp at hne
  simp [blockQ, this, h]

theorem w_true {c : Operand} {x y : Code} (hc : evx F c = some (.raw (.bool true))) (h : AWp E x Q F H) : AWp E (.cond c x y) Q F H :=
  awp_cond (evx_eq hc) (fun _ => h) (fun h => by cases h)
theorem w_false {c : Operand} {x y : Code} (hc : evx F c = some (.raw (.bool false))) (h : AWp E y Q F H) : AWp E (.cond c x y) Q F H :=
  awp_cond (evx_eq hc) (fun h => by cases h) (fun _ => h)
theorem w_if {c : Operand} {x y : Code} {q : Prop} [Decidable q] (hc : evx F c = some (.raw (.bool (decide q)))) (ht : q → AWp E x Q F H) (hf : ¬ q → AWp E y Q F H) : AWp E (.cond c x y) Q F H :=
  awp_cond (evx_eq hc) (fun h => ht (of_decide_eq_true h)) (fun h => hf (of_decide_eq_false h))
theorem w_ifb {c : Operand} {x y : Code} {b : Bool} (hc : evx F c = some (.raw (.bool b))) (ht : b = true → AWp E x Q F H) (hf : b = false → AWp E y Q F H) : AWp E (.cond c x y) Q F H :=
  awp_cond (evx_eq hc) ht hf

/-- What stands in the one frame stands in the other. -/
def Sub : Frm → Frm → Prop
  | [], _ => True
  | (k, x) :: F1, F => evx F (.tmp k) = some x ∧ Sub F1 F

theorem Sub.look {F : Frm} : ∀ {F1 : Frm}, Sub F1 F → ∀ k x, F1.lookup k = some x → ev F (.tmp k) = x
  | [], _, k, x, h => by simp at h
  | (k', x') :: F1, h, k, x, hl => by
    simp only [List.lookup_cons] at hl
    split at hl
    · rename_i hk
      have : k = k' := by simpa using hk
      subst this
      cases hl
      exact evx_eq h.1
    · exact Sub.look h.2 k x hl

theorem sub_int {k : Nat} {κ : IntKind} {a b : Int} (h : evx F (.tmp k) = some (.raw (.int κ a))) (e : a = b) : evx F (.tmp k) = some (.raw (.int κ b)) := e ▸ h
theorem sub_eq {k : Nat} {a b : AV} (h : evx F (.tmp k) = some a) (e : a = b) : evx F (.tmp k) = some b := e ▸ h

theorem w_keep {c : Code} (F1 : Frm) (h : Sub F1 F) (k : AWp E c Q F1 H) : AWp E c Q F H := awp_slots F1 (fun k x hx => .inl (h.look k x hx)) k

/-- Several ways come together. -/
theorem w_join {ι : Type} {x y : Code} (Pre : ι → Prop) (Fs : ι → Frm) (Hs : ι → Heap) (h1 : AWp E x (thenQ (fun F' H' => ∃ i, Pre i ∧ Sub (Fs i) F' ∧ H' = Hs i) Q) F H) (h2 : ∀ i, Pre i → AWp E y Q (Fs i) (Hs i)) : AWp E (.seq x y) Q F H := by
  refine awp_seq (awp_mono h1 fun e F H he => ?_)
  cases e with
  | normal => obtain ⟨i, hi, hs, rfl⟩ := he; exact w_keep _ hs (h2 i hi)
  | _ => exact he

theorem w_loop {ι : Type} {c : Code} (Pre : ι → Prop) (Fs : ι → Frm) (Hs : ι → Heap) (μ : ι → Nat) (i : ι) (h0 : Pre i) (hF : Sub (Fs i) F) (hH : H = Hs i)
    (round : ∀ i, Pre i → AWp E c (thenQ (fun F' H' => ∃ j, (Pre j ∧ μ j < μ i) ∧ Sub (Fs j) F' ∧ H' = Hs j) Q) (Fs i) (Hs i)) : AWp E (.loop c) Q F H := by
  refine awp_loop (fun j F H => Pre j ∧ Sub (Fs j) F ∧ H = Hs j) μ i ⟨h0, hF, hH⟩ ?_
  rintro j F' H' ⟨hp, hs, rfl⟩
  refine w_keep (Fs j) hs (awp_mono (round j hp) fun e F H he => ?_)
  cases e with
  | normal => obtain ⟨i, ⟨hi, hlt⟩, hs, rfl⟩ := he; exact ⟨i, ⟨hi, hs, rfl⟩, hlt⟩
  | _ => exact he
end
end Go.Ab
