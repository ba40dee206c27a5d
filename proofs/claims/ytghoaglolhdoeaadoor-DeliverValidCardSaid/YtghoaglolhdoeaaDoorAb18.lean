/- A program logic over the model: contracts of calls, proved from the model alone, without conditions. -/
import Derived.Test.YtghoaglolhdoeaaDoorAb17
set_option linter.unusedSimpArgs false
set_option linter.unusedVariables false
namespace Go.Ab
open Go

section
variable {P : Program} {G : List (Nat × List Value)} {F : Frm} {H H' : Heap} {t e : TypeId} {k : IntKind} {n : Int}

def arrElem (P : Program) (t : TypeId) : Option (Nat × TypeId) := match P.underlying t with | some (.array n e) => some (n, e) | _ => none
theorem arrElem_spec {t e : TypeId} {n : Nat} (h : arrElem P t = some (n, e)) : P.underlying t = some (.array n e) := by
  unfold arrElem at h; split at h <;> simp at h; obtain ⟨rfl, rfl⟩ := h; assumption

/-- An entry of a table that stands as it stood. -/
theorem o_ixg {g : Nat} {i : Operand} {j N : Nat} {cs : List Value} (ht : arrElem P t = some (N, e)) (hz : tsize P e = some 1) (hG : (g, cs) ∈ G) (hi : evx F i = some (.raw (.int k n))) (hn : n = (j : Int)) (hj : j < N) (hN : N = cs.length) {v : Value} (hv : cs.getD j undef = v) :
    OpG P G (.indexAddr t (.global g) i) F H (.rp [.raw v]) H := by
  intro K C ρ oo hK ho hp hH hρ
  subst hK hn hN hv
  have hj' : ρ i = .int k j := Vl.raw_inv (evx_eq hi ▸ hρ i)
  have hg : ρ (.global g) = .pointer (some ⟨g, 0, none⟩) := Vl.raw_inv (hρ (.global g))
  have hv := hp.glob g cs hG
  cases hv with
  | rp f hb hs hc hx =>
    refine ⟨.value (.pointer (some ⟨g, 0 + j, none⟩)), _, C, ?_, .inl rfl, Ext.refl C, hp, .rp (fun q => f (j + q)) hb hs (fun q hq => ?_) (fun q x hq => ?_), hH⟩
    · have h1 : (0 : Int) ≤ j ∧ (j : Int) < (cs.length : Int) := by omega
      simp only [execOp, ho, hg, hj', Instr.indexAt, asIntOf, Sem.run_bind, Sem.run_pure, Result.andThen_ok, run_underlying (arrElem_spec ht), tsize_run hz, Instr.sureAddr, h1, and_self, if_true, add_none, Nat.mul_one, Int.toNat_natCast]
    · have := hc (j + q) (by simp at hq ⊢; omega)
      simpa [Nat.add_assoc] using this
    · cases q with
      | zero =>
        simp at hq; subst hq
        exact hx j _ (by simp [hj])
      | succ q => simp at hq

/-! ### how a function ends -/
/-- What a result variable holds. -/
def RV (P : Program) (F : Frm) (H : Heap) : ResultVar → AV → Prop
  | .tmp t, x => evx F (.tmp t) = some x
  | .cell a t, x => rdVar P t H (ev F (.tmp a)) = some x
def RVs (P : Program) (F : Frm) (H : Heap) : List ResultVar → List AV → Prop
  | [], [] => True
  | r :: rs, x :: xs => RV P F H r x ∧ RVs P F H rs xs
  | _, _ => False
theorem RVs.eq : ∀ {rs : List ResultVar} {xs : List AV}, RVs P F H rs xs → resList P F H rs = some xs
  | [], [], _ => rfl
  | [], _ :: _, h => h.elim
  | _ :: _, [], h => h.elim
  | r :: rs, x :: xs, h => by
    have h1 : resVar P F H r = some x := by
      cases r with
      | tmp t => have h0 : evx F (.tmp t) = some x := h.1; simp only [resVar, evx_eq h0]
      | cell a t => exact h.1
    simp only [resList, h1, RVs.eq h.2]

theorem c_ag {a N : Nat} {u : AV} {cs : List AV} (hg : tagg P t = some true) (hn : tsize P t = some N) (hx : evx F (.tmp a) = some u) (h : rdX H u N = some cs) : RV P F H (.cell a t) (.agg cs) := by
  simp only [RV, rdVar, hg, hn, evx_eq hx, rdX_eq h, Option.map_some]
theorem c_one {a : Nat} {u v : AV} (hg : tagg P t = some false) (hx : evx F (.tmp a) = some u) (h : rdX H u 1 = some [v]) : RV P F H (.cell a t) v := by
  simp only [RV, rdVar, hg, evx_eq hx, rdX_eq h, Option.bind_some]; rfl

variable {fn : Func} {R : AV → Heap → Prop} {rs : List ResultVar}
theorem r_one {x : AV} (hrs : fn.results.toList = rs) (h : RVs P F H rs [x]) (hR : R x H) : retQ P fn R .ret F H := ⟨x, by rw [resOf, hrs, h.eq], hR⟩
theorem r_tup {x y : AV} {xs : List AV} (hrs : fn.results.toList = rs) (h : RVs P F H rs (x :: y :: xs)) (hR : R (.tup (x :: y :: xs)) H) : retQ P fn R .ret F H := ⟨_, by rw [resOf, hrs, h.eq], hR⟩
theorem r_none (hrs : fn.results.toList = rs) (h : RVs P F H rs []) (hR : R (.tup []) H) : retQ P fn R .ret F H := ⟨_, by rw [resOf, hrs, h.eq], hR⟩
theorem r_norm (h : retQ P fn R .ret F H) : retQ P fn R .normal F H := h

/-- Own memory is let go with the call's end; what is answered is told as data. -/
theorem acall_free {f : FuncId} {args : List AV} {r : AV} (h : ACall P G f args [] (fun r' H' => Rs H' (fun _ => False) r' r)) : ACall P G f args [] (fun r' H' => r' = r ∧ H' = []) := by
  intro C vs hH hp ha
  refine (h C vs hH hp ha).mono ?_
  rintro e w' ⟨r', v, C', rfl, rfl, hp', hv, hR⟩
  have hw : Weak (fun _ => False) C' (bare C' C'.X) :=
    { w := rfl, bad := fun b hb h => hb (.inl (bare_bad h)), free := fun i b hi _ hb h => hp'.xown b (bare_bad h) ⟨i, hi, hb⟩, lt := fun _ h => h.elim
      var := fun _ _ h => h.elim, mapo := fun _ _ h => h.elim, loopo := fun _ _ h => h.elim, vec := fun _ _ _ _ h => h.elim }
  have hX : C'.X = C.X := hp'.X
  have hno : ∀ b, ¬ C.own b := fun b ⟨i, hi, _⟩ => by rw [hH] at hi; simp at hi
  refine ⟨r, v, bare C' C'.X, rfl, rfl, ?_, hR.vl hw hp' v hv, rfl, rfl⟩
  exact
    { X := hX, xown := fun b _ ⟨i, hi, _⟩ => by simp [bare] at hi
      xlt := hp'.xlt
      inj := fun i _ _ hi _ _ _ => by simp [bare] at hi
      lt := fun i _ hi _ => by simp [bare] at hi
      obj := fun i o h => by simp [bare] at h
      ext :=
        { len := by show C.H.length ≤ 0; rw [hH]; simp
          pers := fun b h1 h2 => ⟨(hp'.ext.pers b h1 h2).1, fun hb => (hp'.ext.pers b h1 h2).2 (.inl (bare_bad hb))⟩
          var := fun i cs h => by simp [hH] at h
          mapo := fun i cs h => by simp [hH] at h
          loopo := fun i cs h => by simp [hH] at h
          vec := fun i z v' es' h _ => by simp [hH] at h }
      os := hp'.os, tape := hp'.tape, output := hp'.output, size := hp'.size, same := hp'.same
      ownn := fun b ⟨i, hi, _⟩ => by simp [bare] at hi
      glob := fun g cs hg => by
        have hpu : Pur (.rp (cs.map .raw)) := by simp
        exact hpu.vl (C := C') (C' := bare C' C'.X) rfl (fun b hb h => hb (.inl (bare_bad h))) _ (hp'.glob g cs hg) }

/-- A function from data to data. -/
theorem pure_of_body {f : FuncId} {c : Code} {args : List AV} {r : AV} (hf : P.funcs[f]? = some fn) (hb : fn.body = some c) (hn : args.length ≤ fn.ntmps) (ha : ∀ x ∈ args, Pur x) (hr : Pur r)
    (h : AWp ⟨P, G, 0, fn.ntmps, false⟩ c (retQ P fn (fun r' H' => Rs H' (fun _ => False) r' r)) (argsFrm 0 args) []) : PureCall P G f args r :=
  ⟨ha, hr, acall_free (acall_of_body hf hb hn h)⟩

/-! ### own memory, told as data -/
variable {keep : Nat → Prop}
theorem rs_pur {x y : AV} (h : Pur y) (e : x = y) : Rs H keep x y := by subst e; exact h.rs
theorem rs_dec {b : Bool} {p : Prop} [Decidable p] (h : b = true ↔ p) : Rs H keep (.raw (.bool b)) (.raw (.bool (decide p))) := by
  have : b = decide p := by cases b <;> simp_all
  rw [this]; exact .raw _
theorem rs_int {κ : IntKind} {a b : Int} (h : a = b) : Rs H keep (.raw (.int κ a)) (.raw (.int κ b)) := by subst h; exact .raw _
def RsL (H : Heap) (keep : Nat → Prop) : List AV → List AV → Prop
  | [], [] => True
  | x :: xs, y :: ys => Rs H keep x y ∧ RsL H keep xs ys
  | _, _ => False
theorem RsL.len : ∀ {xs ys : List AV}, RsL H keep xs ys → ys.length = xs.length
  | [], [], _ => rfl
  | [], _ :: _, h => h.elim
  | _ :: _, [], h => h.elim
  | x :: xs, y :: ys, h => by simp [RsL.len h.2]
theorem RsL.get : ∀ {xs ys : List AV}, RsL H keep xs ys → ∀ (k : Nat) (x y : AV), xs[k]? = some x → ys[k]? = some y → Rs H keep x y
  | [], _, h, k, x, y, hx, _ => by simp at hx
  | _ :: _, [], h, k, x, y, _, hy => by simp at hy
  | x :: xs, y :: ys, h, 0, _, _, hx, hy => by simp at hx hy; subst hx; subst hy; exact h.1
  | x :: xs, y :: ys, h, k + 1, _, _, hx, hy => RsL.get h.2 k _ _ (by simpa using hx) (by simpa using hy)
theorem rs_agg {xs ys : List AV} (h : RsL H keep xs ys) : Rs H keep (.agg xs) (.agg ys) := .agg h.len h.get
theorem rs_tup {xs ys : List AV} (h : RsL H keep xs ys) : Rs H keep (.tup xs) (.tup ys) := .tup h.len h.get
theorem rs_fn {f : FuncId} {a a' b b' : List AV} (h1 : RsL H keep a a') (h2 : RsL H keep b b') : Rs H keep (.fn f a b) (.fn f a' b') := .fn h1.len h2.len h1.get h2.get
theorem rs_ptr {i off : Nat} {cs r cs' : List AV} (hk : ¬ keep i) (h : nthX H i = some (.var cs)) (hd : dropX off cs = some r) (hl : RsL H keep r cs') : Rs H keep (.ptr i off) (.rp cs') := by
  obtain ⟨h1, rfl⟩ := dropX_eq _ _ _ hd
  refine .ptr hk ((nthX_eq _ _).symm.trans h) ?_ hl.get
  have := hl.len; simp at this; omega
/-- An own row of pure data. -/
theorem rs_slo {i ver len z : Nat} {es es' : List AV} (hk : ¬ keep i) (h : H[i]? = some (.vec z ver es)) (hl : len = es.length) (hp : ∀ x ∈ es', Pur x) (he : es' = es) : Rs H keep (.slo i ver 0 len) (.sl z false es') := by
  subst hl he
  exact .slo hk h (by simp) rfl (fun k x x' h1 h2 => by rw [List.drop_zero] at h1; rw [h1] at h2; cases h2; rfl) (fun k x x' h1 h2 => by rw [List.drop_zero] at h1; rw [h1] at h2; cases h2; exact (hp x (mem_get h1)).rs)
theorem rs_full {z : Nat} {es : List AV} (hp : ∀ x ∈ es, Pur x) : Rs H keep (.sl z true es) (.sl z false es) :=
  .sl (by simp) rfl (fun k x x' h1 h2 => by rw [h1] at h2; cases h2; rfl) (fun k x x' h1 h2 => by rw [h1] at h2; cases h2; exact (hp x (mem_get h1)).rs)

/-- A call that is lent own memory as data. -/
theorem a_lend {E : Env} {ops : Array Oper} {Q : Frm → Heap → Prop} {rest : List Oper} {F : Frm} {H : Heap} {d : Tmp} {t : TypeId} {p : String} {af : Array Edge} {g : Option (Nat × Bool)}
    {c : Operand} {xs : Array Operand} {tys : Array TypeId} {f : FuncId} {first caps vs vs' : List AV} {r : AV} (hg : gd ops F g = some true) (hc : evx F c = some (.fn f first caps)) (hx : evs F xs.toList = some vs) (hca : callable E.P f = true)
    (h : PureCall E.P E.G f vs' r) (hrs : RsL H (fun _ => False) (first ++ vs ++ caps) vs') (hf : Flt r) (k : AOps E ops Q rest ((d, r) :: F) H) :
    AOps E ops Q (⟨some d, .call { callee := .value c, args := xs, argTypes := tys }, t, p, af, g⟩ :: rest) F H :=
  a_step hg (callP rfl hc hx hca (CallS.lend (R := (· = r)) hrs.len hrs.get (fun _ e => e ▸ hf) h.call) (by rintro r H' ⟨rfl, rfl⟩; exact k))
theorem a_lendb {E : Env} {ops : Array Oper} {Q : Frm → Heap → Prop} {rest : List Oper} {F : Frm} {H : Heap} {d : Tmp} {t : TypeId} {p : String} {af : Array Edge} {g : Option (Nat × Bool)}
    {c : Operand} {xs : Array Operand} {tys : Array TypeId} {f : FuncId} {first caps vs vs' : List AV} {b : Bool} (hg : gd ops F g = some true) (hc : evx F c = some (.fn f first caps)) (hx : evs F xs.toList = some vs) (hca : callable E.P f = true)
    (h : PureCall E.P E.G f vs' (.raw (.bool b))) (hrs : RsL H (fun _ => False) (first ++ vs ++ caps) vs') (kt : b = true → AOps E ops Q rest ((d, .raw (.bool true)) :: F) H) (kf : b = false → AOps E ops Q rest ((d, .raw (.bool false)) :: F) H) :
    AOps E ops Q (⟨some d, .call { callee := .value c, args := xs, argTypes := tys }, t, p, af, g⟩ :: rest) F H := by
  refine a_lend hg hc hx hca h hrs (by simp) ?_
  cases b
  · exact kf rfl
  · exact kt rfl

/-- Behind the last use own memory is let go. -/
theorem w_bare {E : Env} {c : Code} {Q : Exit → Frm → Heap → Prop} (h0 : E.n0 = 0) (F1 : Frm) (hs : Sub F1 F) (hp : ∀ k x, F1.lookup k = some x → Rs H (fun _ => False) x x) (h : AWp E c Q F1 []) : AWp E c Q F H := by
  refine awp_view (fun _ => False) (F' := F1) (H' := []) ?_ h
  exact
    { fr := fun k x' hk => by rw [hs.look k x' hk]; exact hp k x' hk
      len := by simp
      low := by simp [h0]
      k0 := fun i hi => by omega
      dead := fun i hi => by simp at hi
      lt := fun i hi => hi.elim
      obj := fun i o o' hi => hi.elim }

theorem lookup_all {F1 : Frm} {p : AV → Prop} (h : ∀ kx ∈ F1, p kx.2) : ∀ k x, F1.lookup k = some x → p x := by
  intro k x hk
  induction F1 with
  | nil => simp at hk
  | cons a F1 ih =>
    obtain ⟨k', x'⟩ := a
    simp only [List.lookup_cons] at hk
    split at hk
    · cases hk; exact h _ (List.mem_cons_self ..)
    · exact ih (fun y hy => h y (by simp [hy])) hk
end
end Go.Ab

namespace Go.Ab
open Go
/-- A piece of a code, by its place. -/
def subCode : List Nat → Code → Code
  | [], c => c
  | i :: p, .seq x y => subCode p (match i with | 0 => x | _ => y)
  | i :: p, .cond _ x y => subCode p (match i with | 0 => x | _ => y)
  | _ :: p, .block _ c => subCode p c
  | _ :: p, .loop c => subCode p c
  | i :: p, .rangeFunc _ _ x y => subCode p (match i with | 0 => x | _ => y)
  | _, c => c
def opers : Code → Array Oper
  | .region _ ops _ => ops
  | _ => #[]
def opsAt (f : Func) (p : List Nat) : Array Oper := match f.body with | some c => opers (subCode p c) | none => #[]

theorem ixm {α : Type} (f : α → AV) (l : List α) (n : Nat) (h : n < l.length) : (l.map f)[n]? = some (f (l[n]'h)) := by simp [h]
end Go.Ab
