/- A program logic over the model: contracts of calls, proved from the model alone, without conditions. -/
import Derived.Test.YtghoaglolhdoeaaDoorAb26
import Derived.Laws.StructEq
import Derived.Laws.BytesString
set_option linter.unusedSimpArgs false
set_option linter.unusedVariables false
namespace Go.Ab
open Go
section
variable {P : Program} {F : Frm} {H H' : Heap}

/-- What is told of one slot more weakly. -/
theorem opOk_weak {op : Op} {q : Tmp} {u w v : AV} (hx : evx F (.tmp q) = some u) (hw : ∀ C y, Vl C u y → Vl C w y) (h : OpOk P op ((q, w) :: F) H v H') : OpOk P op F H v H' := by
  intro K C ρ oo ho hp hH hρ
  refine h K C ρ oo ho hp hH fun x => ?_
  by_cases hq : x = .tmp q
  · subst hq
    have h1 := evx_eq hx ▸ hρ (.tmp q)
    have h2 : ev ((q, w) :: F) (.tmp q) = w := by simp [ev]
    rw [h2]; exact hw C _ h1
  · have h2 : ev ((q, w) :: F) x = ev F x := by
      cases x with
      | tmp t =>
        have : (t == q) = false := by simp; intro e; exact hq (by rw [e])
        simp only [ev, List.lookup_cons, this]
      | const v => cases v <;> rfl
      | _ => rfl
    rw [h2]; exact hρ x

theorem slb_view {z n : Nat} {es : List AV} (C : Ctx) (v : Value) (h : Vl C (.slb z n es) v) : Vl C (.sl z false (es.take n)) v := by
  cases h with
  | slb g hz hle hcap hn hs ha hx =>
    have hl : (es.take n).length = n := by simp; omega
    have hz' : ∀ e ∈ es.take n, e.cells.length = z := fun e he => hs e (List.mem_of_mem_take he)
    conv => rhs; rw [← hl]
    refine .sl g hz (by omega) (fun h => by cases h) hn hz' (fun x hx hne => ?_) (fun k x hk => ?_)
    · obtain ⟨h1, h2, h3⟩ := ha x hx (fun h => hne (by rw [h]; simp))
      exact ⟨h1, h2, fun k hk => h3 k (Nat.lt_of_lt_of_le hk (Nat.mul_le_mul_right z (by omega)))⟩
    · rw [flat_take hs] at hk
      have hlt := get_lt hk
      rw [List.getElem?_take_of_lt (by simp at hlt; omega)] at hk
      exact hx k x hk

/-- A slice with more behind it, read at a place within its length. -/
theorem o_ixb {t e : TypeId} {i : Operand} {q : Tmp} {z j n : Nat} {k : IntKind} {r : Int} {es : List AV} {v : AV} (ht : sliceElem P t = some e) (hz : tsize P e = some z) (hx : evx F (.tmp q) = some (.slb z n es)) (hi : evx F i = some (.raw (.int k r))) (hiq : i ≠ .tmp q) (hn : r = (j : Int)) (hv : es[j]? = some v) (hj : j < n) :
    OpOk P (.indexAddr t (.tmp q) i) F H (.rp v.cells) H := by
  refine opOk_weak hx slb_view (o_ix (k := k) ht hz (b := false) (es := es.take n) (by simp [evx, look]) ?_ hn (by rw [List.getElem?_take_of_lt hj]; exact hv))
  cases i with
  | tmp s =>
    have : Nat.beq s q = false := by
      cases hb : Nat.beq s q with
      | false => rfl
      | true => exact absurd (by rw [Nat.eq_of_beq_eq_true hb]) hiq
    simp only [evx, look, this, cond_false] at hi ⊢; exact hi
  | _ => exact hi

/-- All of a slice with more behind it. -/
theorem o_slb {t e : TypeId} {x h : Operand} {z n m : Nat} {k : IntKind} {r : Int} {es : List AV} (ht : sliceElem P t = some e) (hz : tsize P e = some z) (hx : evx F x = some (.slb z n es)) (hh : evx F h = some (.raw (.int k r))) (hm : r = (m : Int)) (h3 : m ≤ es.length) :
    OpOk P (.slice t x none (some h) none) F H (.sl z false (es.take m)) H := .still fun K C ρ oo ho hp hH hρ => by
  subst hm
  have hv := evx_eq hx ▸ hρ x
  generalize hr : ρ x = r at hv
  cases hv with
  | slb g hz' hle hcap hn hs ha hx' =>
    rename_i a cap
    have hb := sliceBounds_run (P := P) hρ (lo := none) (hi := some h) (rl := none) (rh := some (m : Int)) rfl (by simp only [bnd, evx_eq hh]) n cap (by omega) (fun q hq => by simp at hq; omega) (by simp) C.w
    have hrun := sliceAt_run (P := P) (sliceElem_spec ht) hz a n cap _ _ _ _ _ C.w hb
    simp only [Option.map_none, Option.map_some, Option.getD_none, Option.getD_some, Int.toNat_zero, Int.toNat_natCast, Nat.sub_zero, Nat.zero_mul] at hrun
    have hl : (es.take m).length = m := by simp; omega
    refine ⟨.slice (if cap = 0 then a else a.map (·.add 0)) m cap, by simp only [execOp, ho, hr, Sem.run_bind, Option.map_none, Option.map_some, hrun, Result.andThen_ok, Sem.run_pure], ?_⟩
    have ha0 : (if cap = 0 then a else a.map (·.add 0)) = a := by
      split
      · rfl
      · cases a with
        | none => rfl
        | some a => obtain ⟨b, o, sp⟩ := a; simp [Addr.add]
    rw [ha0]
    conv => rhs; rw [← hl]
    have hz2 : ∀ e ∈ es.take m, e.cells.length = z := fun e he => hs e (List.mem_of_mem_take he)
    refine .sl g hz' (by omega) (fun h => by cases h) hn hz2 (fun x hx hne => ?_) (fun k x hk => ?_)
    · obtain ⟨h1, h2, h3⟩ := ha x hx (fun h => hne (by rw [h]; simp))
      exact ⟨h1, h2, fun k hk => h3 k (Nat.lt_of_lt_of_le hk (Nat.mul_le_mul_right z (by omega)))⟩
    · rw [flat_take hs] at hk
      have hlt := get_lt hk
      rw [List.getElem?_take_of_lt (by simp at hlt; omega)] at hk
      exact hx' k x hk

/-! ### structs of numbers and texts, the same twice -/
def rawL : List AV → Option (List Value)
  | [] => some []
  | .raw v :: l => match rawL l with | some r => some (v :: r) | none => none
  | _ => none
theorem rawL_eq : ∀ {l : List AV} {r : List Value}, rawL l = some r → l = r.map .raw
  | [], r, h => by simp [rawL] at h; subst h; rfl
  | a :: l, r, h => by
    cases a with
    | raw v =>
      simp only [rawL] at h
      split at h <;> simp at h
      rename_i r' hr
      subst h
      rw [rawL_eq hr]; rfl
    | _ => simp [rawL] at h
def scTy (P : Program) (t : TypeId) (v : Value) : Bool := match P.underlying t, v with
  | some (.int _), .int _ _ => true
  | some .string, .string _ => true
  | _, _ => false
def scs (P : Program) (xs : List Value) : List Field → Bool
  | [] => true
  | f :: fs => (match xs[f.offset]? with | some v => scTy P f.type v | none => false) && scs P xs fs
theorem sc_same {t : TypeId} {v : Value} (h : scTy P t v = true) (d : Nat) (w : World) : (Op.equalIn (d + 1) t v v).run P w = .ok true w ∧ tagg P t = some false := by
  unfold scTy at h
  split at h
  · rename_i k _ _ hu
    exact ⟨by rw [run_equalIn_int w d t _ _ _ _ hu]; simp, by simp [tagg, hu]⟩
  · rename_i hu
    exact ⟨by rw [run_equalIn_string w d t _ _ hu]; simp, by simp [tagg, hu]⟩
  · cases h
theorem fields_same (d : Nat) (xs : List Value) (w : World) : ∀ fs : List Field, scs P xs fs = true → (Op.eqFields (d + 1) xs.toArray xs.toArray fs).run P w = .ok true w
  | [], _ => by simp [Op.eqFields]
  | f :: fs, h => by
    simp only [scs, Bool.and_eq_true] at h
    have ih := fields_same d xs w fs h.2
    simp only [Op.eqFields, Sem.run_ite]
    split
    · have h1 := h.1
      split at h1
      · rename_i v hv
        obtain ⟨e1, e2⟩ := sc_same h1 d w
        have hp : ∀ w, (part f.type xs.toArray f.offset).run P w = .ok v w := fun w => by
          unfold part
          rw [Sem.run_bind, tagg_run e2]
          simp [hv]
        simp only [Sem.run_bind, hp, Result.andThen_ok, e1, Bool.not_true, Bool.false_eq_true, if_false]
        exact ih
      · cases h1
    · exact ih
structure EqOk (P : Program) (t : TypeId) : Prop where
  ht : P.underlying t = some (.struct (P.fieldsOf t))
  hp : P.stoodInHeld t = false
  hm : P.eqGuardType P.depth t = false
theorem agg_raws {C : Ctx} {as : List AV} {vs : List Value} {u : Value} (h : Vl C (.agg as) u) (hr : rawL as = some vs) : u = .agg vs.toArray := by
  have := rawL_eq hr
  subst this
  cases h with
  | agg hl hx =>
    rename_i cs
    congr 1
    apply Array.ext
    · simpa using hl
    · intro i h1 h2
      have hi : i < vs.length := by simpa using h2
      have := hx i (.raw vs[i]) (by simp [hi])
      have h3 := Vl.raw_inv this
      simp [h1] at h3
      simpa using h3
theorem o_seq {t t' : TypeId} {x y : Operand} {as : List AV} {vs : List Value} (he : EqOk P t) (hx : evx F x = some (.agg as)) (hy : evx F y = some (.agg as)) (hr : rawL as = some vs) (hs : scs P vs (P.fieldsOf t).toList = true) :
    OpOk P (.binOp .eql t x y t') F H (.raw (.bool true)) H := .still fun K C ρ oo ho hp hH hρ => by
  have h1 := agg_raws (evx_eq hx ▸ hρ x) hr
  have h2 := agg_raws (evx_eq hy ▸ hρ y) hr
  refine ⟨.bool true, ?_, .raw _⟩
  simp only [execOp, ho, h1, h2, Sem.run_bind, run_eqGuard_agg C.w _ _ _ _ _ _ he.hm, Result.andThen_ok, run_eql_struct]
  rw [show (10000 : Nat) = 9998 + 1 + 1 from rfl, run_equalIn_struct C.w (9998 + 1) t _ _ he.ht he.hp, fields_same 9998 vs C.w _ hs]
  simp
theorem o_sne {t t' : TypeId} {x y : Operand} {as : List AV} {vs : List Value} (he : EqOk P t) (hx : evx F x = some (.agg as)) (hy : evx F y = some (.agg as)) (hr : rawL as = some vs) (hs : scs P vs (P.fieldsOf t).toList = true) :
    OpOk P (.binOp .neq t x y t') F H (.raw (.bool false)) H := .still fun K C ρ oo ho hp hH hρ => by
  have h1 := agg_raws (evx_eq hx ▸ hρ x) hr
  have h2 := agg_raws (evx_eq hy ▸ hρ y) hr
  refine ⟨.bool false, ?_, .raw _⟩
  simp only [execOp, ho, h1, h2, Sem.run_bind, run_eqGuard_agg C.w _ _ _ _ _ _ he.hm, Result.andThen_ok, run_neq_struct]
  rw [show (10000 : Nat) = 9998 + 1 + 1 from rfl, run_equalIn_struct C.w (9998 + 1) t _ _ he.ht he.hp, fields_same 9998 vs C.w _ hs]
  simp

/-! ### a text out of bytes -/
def u8L : List AV → Option (List Int)
  | [] => some []
  | .raw (.int .u8 n) :: l => match u8L l with | some r => some (n :: r) | none => none
  | _ => none
theorem u8L_eq : ∀ {l : List AV} {r : List Int}, u8L l = some r → l = r.map fun n => .raw (.int .u8 n)
  | [], r, h => by simp [u8L] at h; subst h; rfl
  | a :: l, r, h => by
    unfold u8L at h
    split at h
    · rename_i h0; cases h0
    · rename_i n l' h0
      cases h0
      split at h <;> simp at h
      rename_i r' hr
      subst h
      rw [u8L_eq hr]; rfl
    · cases h
def textOf (ns : List Int) : ByteArray := ns.foldl (fun r n => r.push (UInt8.ofNat n.toNat)) ByteArray.empty
theorem flat_raw (vs : List Value) : flat (vs.map .raw) = vs.map .raw := by
  induction vs with
  | nil => rfl
  | cons v t ih => simp only [flat, List.map_cons, List.flatMap_cons] at ih ⊢; rw [ih]; rfl
theorem o_b2s {s d e : TypeId} {x : Operand} {b : Bool} {es : List AV} {ns : List Int} (hs : sliceElem P s = some e) (he : P.underlying e = some (.int .u8)) (hd : P.underlying d = some .string) (hx : evx F x = some (.sl 1 b es)) (hn : u8L es = some ns) :
    OpOk P (.convert s d x) F H (.raw (.string (textOf ns))) H := .still fun K C ρ oo ho hp hH hρ => by
  have hes := u8L_eq hn
  subst hes
  have hv := evx_eq hx ▸ hρ x
  generalize hr : ρ x = r at hv
  refine ⟨.string (textOf ns), ?_, .raw _⟩
  simp only [execOp, ho, hr]
  cases hv with
  | sl g hz hcap hfull hnil hs' ha hx' =>
    rename_i a cap
    rw [Sem.run_bind, run_convert_bytes_string C.w s d e a _ cap (sliceElem_spec hs) he hd]
    have hf : flat (ns.map fun n => AV.raw (.int .u8 n)) = ns.map fun n => AV.raw (.int .u8 n) := by
      have := flat_raw (ns.map (Value.int .u8))
      rw [List.map_map] at this; exact this
    cases a with
    | none =>
      have h0 := hnil rfl
      have : ns = [] := List.length_eq_zero_iff.1 (by simp at hcap; omega)
      subst this
      simp [Conv.bytesToString, textOf]
    | some ad =>
      rw [run_bytesToString C.w ad _ cap ns ?_]
      · simp [textOf]
      · by_cases h0 : ns = []
        · subst h0; simp [loadCells, loadCellsFrom]
        · obtain ⟨h1, h2, h3⟩ := ha ad rfl (by simpa using h0)
          have := run_loadCells_list (P := P) C.w ad (ns.map (Value.int .u8)) (fun j v hj => by
            obtain ⟨bl, o, sp⟩ := ad
            simp only at h1 h2 h3
            subst h1
            have hjl := get_lt hj
            simp at hjl
            have h4 := h3 j (by simpa using hjl)
            rw [add_none, h4]
            have h5 := hx' j (.raw (.int .u8 ns[j])) (by rw [hf]; simp [hjl])
            have h6 := Vl.raw_inv h5
            simp [hjl] at hj
            rw [h6, hj])
          simpa using this
end
end Go.Ab
namespace Go.Ab
open Go
theorem rs_slob {H : Heap} {keep : Nat → Prop} {i ver n z : Nat} {es es' : List AV} (hk : ¬ keep i) (h : H[i]? = some (.vec z ver es)) (hle : n ≤ es.length) (hp : ∀ x ∈ es', Pur x) (he : es' = es) : Rs H keep (.slo i ver 0 n) (.slb z n es') := by
  subst he
  exact .slob hk h hle rfl (fun k x x' h1 h2 => by rw [h1] at h2; cases h2; rfl) (fun k x x' h1 h2 => by rw [h1] at h2; cases h2; exact (hp _ (mem_get h1)).rs)
theorem rs_slbv {H : Heap} {keep : Nat → Prop} {n z : Nat} {es es' : List AV} (hl : n ≤ es.length) (hp : ∀ x ∈ es, Pur x) (he : es' = es.take n) : Rs H keep (.slb z n es) (.sl z false es') := by
  subst he
  refine .slbv (by simp; omega) (fun k x x' h1 h2 => ?_) (fun k x x' h1 h2 => ?_) <;>
  · have hk := get_lt h2
    simp at hk
    rw [List.getElem?_take_of_lt (by omega), h1] at h2
    cases h2
    first | rfl | exact (hp _ (mem_get h1)).rs
theorem elD {F : Frm} {H : Heap} {P : Program} {op : Op} {v w : AV} {H1 : Heap} (h : OpOk P op F H v H1) (e : v = w) : OpOk P op F H w H1 := e ▸ h
end Go.Ab
