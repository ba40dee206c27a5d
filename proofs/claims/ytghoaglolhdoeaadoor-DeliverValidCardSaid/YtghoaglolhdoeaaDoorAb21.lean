/- A program logic over the model: contracts of calls, proved from the model alone, without conditions. -/
import Derived.Test.YtghoaglolhdoeaaDoorAb20
set_option linter.unusedSimpArgs false
set_option linter.unusedVariables false
namespace Go.Ab
open Go

section
variable {E : Env} {ops : Array Oper} {pl : Plan} {Q : Frm → Heap → Prop} {i : Nat} {rest : List Oper} {F : Frm} {H H' : Heap} {op : Op} {d : Tmp} {t : TypeId} {p : String} {af : Array Edge} {g : Option (Nat × Bool)} {v : AV} {L : List Tmp} {ks : List Nat}

theorem d_nil (h : Q F H) : DOps E ops pl Q i [] F H := h

/-- One operation that turns nothing. -/
theorem d_D (hL : pl.lksOf i = L) (hK : pl.ksOf i = ks) (hg : gd ops (restr F L) g = some true) (h : ∀ y, OpD E ⟨some d, op, t, p, af, g⟩ (restr F L) (msk ks y 0 H) v (msk ks y 0 H)) (k : DOps E ops pl Q (i + 1) rest ((d, v) :: F) H) :
    DOps E ops pl Q i (⟨some d, op, t, p, af, g⟩ :: rest) F H := by
  subst hL hK
  exact ⟨true, hg, fun _ => ⟨v, none, H, h, rfl, k⟩, fun h => (by cases h)⟩
theorem d_op (hL : pl.lksOf i = L) (hK : pl.ksOf i = ks) (hg : gd ops (restr F L) g = some true) (h : ∀ y, OpOk E.P op (restr F L) (msk ks y 0 H) v (msk ks y 0 H)) (k : DOps E ops pl Q (i + 1) rest ((d, v) :: F) H) :
    DOps E ops pl Q i (⟨some d, op, t, p, af, g⟩ :: rest) F H := d_D hL hK hg (fun y => .op (h y).g) k
theorem d_opg (hL : pl.lksOf i = L) (hK : pl.ksOf i = ks) (hg : gd ops (restr F L) g = some true) (h : ∀ y, OpG E.P E.G op (restr F L) (msk ks y 0 H) v (msk ks y 0 H)) (k : DOps E ops pl Q (i + 1) rest ((d, v) :: F) H) :
    DOps E ops pl Q i (⟨some d, op, t, p, af, g⟩ :: rest) F H := d_D hL hK hg (fun y => .op (h y)) k
/-- One that turns an object. -/
theorem d_w {j : Nat} {ob : AObj} (hL : pl.lksOf i = L) (hK : pl.ksOf i = ks) (hg : gd ops (restr F L) g = some true) (h : ∀ y, OpOk E.P op (restr F L) (msk ks y 0 H) v ((msk ks y 0 H).set j ob)) (hw : pl.wrOf i = some j) (hk : ks.contains j = true) (hH : setX H j ob = some H')
    (k : DOps E ops pl Q (i + 1) rest ((d, v) :: F) H') : DOps E ops pl Q i (⟨some d, op, t, p, af, g⟩ :: rest) F H := by
  subst hL hK
  exact ⟨true, hg, fun _ => ⟨v, some (j, ob), H', fun y => .op (h y).g, ⟨hw, by simpa using hk, (setX_eq _ _ _ _ hH).2⟩, k⟩, fun h => (by cases h)⟩
theorem d_w0 {j : Nat} {ob : AObj} (hL : pl.lksOf i = L) (hK : pl.ksOf i = ks) (hg : gd ops (restr F L) g = some true) (h : ∀ y, OpOk E.P op (restr F L) (msk ks y 0 H) v ((msk ks y 0 H).set j ob)) (hw : pl.wrOf i = some j) (hk : ks.contains j = true) (hH : setX H j ob = some H')
    (k : DOps E ops pl Q (i + 1) rest F H') : DOps E ops pl Q i (⟨none, op, t, p, af, g⟩ :: rest) F H := by
  subst hL hK
  exact ⟨true, hg, fun _ => ⟨v, some (j, ob), H', fun y => .op (h y).g, ⟨hw, by simpa using hk, (setX_eq _ _ _ _ hH).2⟩, k⟩, fun h => (by cases h)⟩
theorem d_off (hL : pl.lksOf i = L) (hg : gd ops (restr F L) g = some false) (k : DOps E ops pl Q (i + 1) rest ((d, .raw undef) :: F) H) : DOps E ops pl Q i (⟨some d, op, t, p, af, g⟩ :: rest) F H := by
  subst hL
  exact ⟨false, hg, fun h => (by cases h), fun _ => k⟩
theorem d_off0 (hL : pl.lksOf i = L) (hg : gd ops (restr F L) g = some false) (k : DOps E ops pl Q (i + 1) rest F H) : DOps E ops pl Q i (⟨none, op, t, p, af, g⟩ :: rest) F H := by
  subst hL
  exact ⟨false, hg, fun h => (by cases h), fun _ => k⟩
theorem d_if {q : Prop} [Decidable q] (hL : pl.lksOf i = L) (hK : pl.ksOf i = ks) (hg : gd ops (restr F L) g = some true) (h : ∀ y, OpOk E.P op (restr F L) (msk ks y 0 H) (.raw (.bool (decide q))) (msk ks y 0 H))
    (kt : q → DOps E ops pl Q (i + 1) rest ((d, .raw (.bool true)) :: F) H) (kf : ¬ q → DOps E ops pl Q (i + 1) rest ((d, .raw (.bool false)) :: F) H) : DOps E ops pl Q i (⟨some d, op, t, p, af, g⟩ :: rest) F H := by
  refine d_op hL hK hg h ?_
  by_cases hq : q
  · rw [show decide q = true from decide_eq_true hq]; exact kt hq
  · rw [show decide q = false from decide_eq_false hq]; exact kf hq
theorem d_ifb {b : Bool} (hL : pl.lksOf i = L) (hK : pl.ksOf i = ks) (hg : gd ops (restr F L) g = some true) (h : ∀ y, OpOk E.P op (restr F L) (msk ks y 0 H) (.raw (.bool b)) (msk ks y 0 H))
    (kt : b = true → DOps E ops pl Q (i + 1) rest ((d, .raw (.bool true)) :: F) H) (kf : b = false → DOps E ops pl Q (i + 1) rest ((d, .raw (.bool false)) :: F) H) : DOps E ops pl Q i (⟨some d, op, t, p, af, g⟩ :: rest) F H := by
  refine d_op hL hK hg h ?_
  cases b
  · exact kf rfl
  · exact kt rfl

variable {c : Operand} {xs : Array Operand} {tys : Array TypeId} {f : FuncId} {first caps vs vs' : List AV} {r : AV}
theorem d_pure (hL : pl.lksOf i = L) (hg : gd ops (restr F L) g = some true) (hc : evx (restr F L) c = some (.fn f first caps)) (hx : evs (restr F L) xs.toList = some vs) (hca : callable E.P f = true)
    (h : PureCall E.P E.G f (first ++ vs ++ caps) r) (k : DOps E ops pl Q (i + 1) rest ((d, r) :: F) H) :
    DOps E ops pl Q i (⟨some d, .call { callee := .value c, args := xs, argTypes := tys }, t, p, af, g⟩ :: rest) F H :=
  d_D hL rfl hg (fun y => .call c xs tys f first caps vs rfl hc hx hca (CallS.pure h.pargs (R := (· = r)) (fun _ e => e ▸ h.res) h.call _)) k
theorem d_pureb {b : Bool} (hL : pl.lksOf i = L) (hg : gd ops (restr F L) g = some true) (hc : evx (restr F L) c = some (.fn f first caps)) (hx : evs (restr F L) xs.toList = some vs) (hca : callable E.P f = true)
    (h : PureCall E.P E.G f (first ++ vs ++ caps) (.raw (.bool b))) (kt : b = true → DOps E ops pl Q (i + 1) rest ((d, .raw (.bool true)) :: F) H) (kf : b = false → DOps E ops pl Q (i + 1) rest ((d, .raw (.bool false)) :: F) H) :
    DOps E ops pl Q i (⟨some d, .call { callee := .value c, args := xs, argTypes := tys }, t, p, af, g⟩ :: rest) F H := by
  refine d_pure hL hg hc hx hca h ?_
  cases b
  · exact kf rfl
  · exact kt rfl
theorem d_lend (hL : pl.lksOf i = L) (hK : pl.ksOf i = ks) (hg : gd ops (restr F L) g = some true) (hc : evx (restr F L) c = some (.fn f first caps)) (hx : evs (restr F L) xs.toList = some vs) (hca : callable E.P f = true)
    (h : PureCall E.P E.G f vs' r) (hrs : ∀ y, RsL (msk ks y 0 H) (fun _ => False) (first ++ vs ++ caps) vs') (hf : Flt r) (k : DOps E ops pl Q (i + 1) rest ((d, r) :: F) H) :
    DOps E ops pl Q i (⟨some d, .call { callee := .value c, args := xs, argTypes := tys }, t, p, af, g⟩ :: rest) F H :=
  d_D hL hK hg (fun y => .call c xs tys f first caps vs rfl hc hx hca (CallS.lend (R := (· = r)) (hrs y).len (hrs y).get (fun _ e => e ▸ hf) h.call)) k
end

section
variable {P : Program} {F : Frm} {H H' : Heap} {x y a : Operand} {t e : TypeId} {v u : AV}
theorem o_stD {N i off : Nat} {cs r : List AV} (hs : tsize P t = some (N + 1)) (hx : evx F x = some v) (hN : v.cells.length = N + 1) (hg : v.goodPart H = true) (ha : evx F a = some (.ptr i off)) (hc : nthX H i = some (.var cs)) (hr : setsX cs off v.cells = some r) :
    OpOk P (.store t a x) F H (.raw undef) (H.set i (.var r)) := by
  refine ok_store (by rw [evx_eq hx, hN]; exact hs) (by rw [evx_eq hx]; exact hg) ?_
  rw [evx_eq hx, evx_eq ha]
  rw [nthX_eq] at hc
  obtain ⟨h1, rfl⟩ := setsX_eq _ _ _ _ hr
  simp only [wrCells, hc]
  rw [if_pos]
  rcases h1 with h | h
  · rw [h] at hN; simp at hN
  · exact h
theorem o_apD {q ver len z bytes ver' len' : Nat} {zs : List Value} {x0 : AV} {es new out : List AV} (he : ElemOk P t e z zs x0 bytes) (hs : evx F x = some (.slo q ver 0 len)) (hH : H[q]? = some (.vec z ver es)) (hlen : len = es.length) (hy : evx F y = some v) (hnew : srcElems H z v = some new)
    (hg : new.all (AV.goodPart H) = true) (hb : (es.length + new.length) * bytes ≤ 140737488355328) (h63 : es.length + new.length ≤ 9223372036854775807) (hver : ver + 1 = ver') (hlen' : len + new.length = len') (hout : es ++ new = out) :
    OpOk P (.call { callee := .builtin .append, args := #[x, y], argTypes := #[t, t] }) F H (.slo q ver' 0 len') (H.set q (.vec z ver' out)) := by
  subst hver hlen' hout
  exact ok_append_slo (P := P) (F := F) (H := H) (s := x) (x := y) (t := t) he.ht he.hz he.hby he.hzero he.hzl (evx_eq hs) hH hlen (by rw [evx_eq hy]; exact hnew) hg hb h63
end
end Go.Ab

namespace Go.Ab
open Go
section
variable {P : Program} {F : Frm} {H : Heap} {x y : Operand} {t t' : TypeId} {k k' : IntKind} {m n : Int}
theorem o_shr1 (hx : evx F x = some (.raw (.int k m))) (hy : evx F y = some (.raw (.int k' 1))) : OpOk P (.binOp .shr t x y t') F H (.raw (.int k (m / 2))) H := by
  have := o_shr (P := P) (H := H) (t := t) (t' := t') hx hy (by decide)
  have e : min (1 : Int).toNat k.bits = 1 := by cases k <;> decide
  rw [e] at this; exact this
theorem and_one (k : IntKind) (m : Int) (h0 : 0 ≤ m) (h1 : m ≤ khi k) : k.wrap (BitVec.ofInt k.bits m &&& BitVec.ofInt k.bits 1).toNat = m % 2 := by
  obtain ⟨n, rfl⟩ : ∃ n : Nat, m = n := ⟨m.toNat, by omega⟩
  have h2 : (BitVec.ofInt k.bits (n : Int) &&& BitVec.ofInt k.bits 1).toNat = n % 2 := by
    rw [BitVec.toNat_and]
    have e1 : (BitVec.ofInt k.bits 1).toNat = 1 := by cases k <;> rfl
    have e2 : (BitVec.ofInt k.bits (n : Int)).toNat % 2 = n % 2 := by
      rw [BitVec.toNat_ofInt]
      cases k <;> simp [IntKind.bits] <;> omega
    rw [e1, Nat.and_one_is_mod, e2]
  rw [h2, wrap_id (by cases k <;> simp [klo, khi] <;> omega)]
  omega
theorem o_and1 (hx : evx F x = some (.raw (.int k m))) (hy : evx F y = some (.raw (.int k 1))) (h0 : 0 ≤ m) (h1 : m ≤ khi k) : OpOk P (.binOp .and t x y t') F H (.raw (.int k (m % 2))) H :=
  o_bin hx hy (by simp only [rawBin, if_pos, and_one k m h0 h1])
end
end Go.Ab
