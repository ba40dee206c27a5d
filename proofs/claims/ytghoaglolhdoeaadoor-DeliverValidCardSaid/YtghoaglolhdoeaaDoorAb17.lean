/- A program logic over the model: contracts of calls, proved from the model alone, without conditions. -/
import Derived.Test.YtghoaglolhdoeaaDoorAb16
import Derived.Laws.Small
import Derived.Laws.Shifts
import Derived.BigFrame
set_option linter.unusedSimpArgs false
set_option linter.unusedVariables false
namespace Go.Ab
open Go

/-! ### lists, so that a whole answer comes out -/
def nthX {α : Type} : List α → Nat → Option α
  | [], _ => none
  | x :: _, 0 => some x
  | _ :: l, n + 1 => nthX l n
theorem nthX_eq {α : Type} : ∀ (l : List α) (n : Nat), nthX l n = l[n]?
  | [], n => by simp [nthX]
  | x :: l, 0 => by simp [nthX]
  | x :: l, n + 1 => by simp [nthX, nthX_eq l n]

def takeX {α : Type} : Nat → List α → Option (List α)
  | 0, _ => some []
  | _ + 1, [] => none
  | n + 1, x :: l => match takeX n l with | some r => some (x :: r) | none => none
theorem takeX_eq {α : Type} : ∀ (n : Nat) (l r : List α), takeX n l = some r → n ≤ l.length ∧ l.take n = r
  | 0, l, r, h => by cases h; simp
  | n + 1, [], r, h => by cases h
  | n + 1, x :: l, r, h => by
    simp only [takeX] at h
    cases hq : takeX n l with
    | none => rw [hq] at h; cases h
    | some r' => rw [hq] at h; cases h; have := takeX_eq n l r' hq; simp [this.2]; exact this.1

def dropX {α : Type} : Nat → List α → Option (List α)
  | 0, l => some l
  | _ + 1, [] => none
  | n + 1, _ :: l => dropX n l
theorem dropX_eq {α : Type} : ∀ (n : Nat) (l r : List α), dropX n l = some r → n ≤ l.length ∧ l.drop n = r
  | 0, l, r, h => by cases h; simp
  | n + 1, [], r, h => by cases h
  | n + 1, x :: l, r, h => by have := dropX_eq n l r h; simp [this.2]; exact this.1

def setX {α : Type} : List α → Nat → α → Option (List α)
  | [], _, _ => none
  | _ :: l, 0, y => some (y :: l)
  | x :: l, n + 1, y => match setX l n y with | some r => some (x :: r) | none => none
theorem setX_eq {α : Type} : ∀ (l : List α) (n : Nat) (y : α) (r : List α), setX l n y = some r → n < l.length ∧ l.set n y = r
  | [], _, _, r, h => by cases h
  | x :: l, 0, y, r, h => by cases h; simp
  | x :: l, n + 1, y, r, h => by
    simp only [setX] at h
    cases hq : setX l n y with
    | none => rw [hq] at h; cases h
    | some r' => rw [hq] at h; cases h; have := setX_eq l n y r' hq; simp [this.2]; exact this.1

def setsX {α : Type} : List α → Nat → List α → Option (List α)
  | l, _, [] => some l
  | l, n, y :: ys => match setX l n y with | some r => setsX r (n + 1) ys | none => none
theorem splice_cons {α : Type} (l : List α) (n : Nat) (y : α) (ys : List α) (h : n < l.length) : splice (l.set n y) (n + 1) ys = splice l n (y :: ys) := by
  unfold splice
  rw [List.take_set, List.drop_set]
  rw [if_pos (by omega)]
  have : (List.take (n + 1) l).set n y = List.take n l ++ [y] := by
    rw [List.take_succ_eq_append_getElem h, List.set_append, if_neg (by simp; omega)]
    simp [Nat.min_eq_left (Nat.le_of_lt h)]
  rw [this]
  simp [Nat.add_assoc, Nat.add_comm, Nat.add_left_comm]
theorem setsX_eq {α : Type} : ∀ (ys l : List α) (n : Nat) (r : List α), setsX l n ys = some r → (ys = [] ∨ n + ys.length ≤ l.length) ∧ splice l n ys = r
  | [], l, n, r, h => by cases h; simp [splice]
  | y :: ys, l, n, r, h => by
    simp only [setsX] at h
    cases hq : setX l n y with
    | none => rw [hq] at h; cases h
    | some r' =>
      rw [hq] at h
      obtain ⟨h1, rfl⟩ := setX_eq l n y r' hq
      obtain ⟨h2, h3⟩ := setsX_eq ys _ _ r h
      refine ⟨.inr ?_, by rw [← splice_cons _ _ _ _ h1]; exact h3⟩
      rcases h2 with rfl | h2
      · simp; omega
      · simp at h2; simp; omega

def snocX {α : Type} : List α → α → Option (List α)
  | [], y => some [y]
  | x :: l, y => match snocX l y with | some r => some (x :: r) | none => none
theorem snocX_eq {α : Type} : ∀ (l : List α) (y : α) (r : List α), snocX l y = some r → l ++ [y] = r
  | [], y, r, h => by cases h; rfl
  | x :: l, y, r, h => by
    simp only [snocX] at h
    cases hq : snocX l y with
    | none => rw [hq] at h; cases h
    | some r' => rw [hq] at h; cases h; rw [List.cons_append, snocX_eq l y r' hq]

def rawsX : List Value → Option (List AV)
  | [] => some []
  | v :: l => match rawsX l with | some r => some (.raw v :: r) | none => none
theorem rawsX_eq : ∀ (l : List Value) (r : List AV), rawsX l = some r → l.map .raw = r
  | [], r, h => by cases h; rfl
  | v :: l, r, h => by
    simp only [rawsX] at h
    cases hq : rawsX l with
    | none => rw [hq] at h; cases h
    | some r' => rw [hq] at h; cases h; rw [List.map_cons, rawsX_eq l r' hq]

/-! ### whole numbers -/
def klo : IntKind → Int
  | .i8 => -128 | .i16 => -32768 | .i32 => -2147483648 | .i64 => -9223372036854775808 | _ => 0
def khi : IntKind → Int
  | .i8 => 127 | .i16 => 32767 | .i32 => 2147483647 | .i64 => 9223372036854775807
  | .u8 => 255 | .u16 => 65535 | .u32 => 4294967295 | _ => 18446744073709551615

theorem wrap_id {k : IntKind} {n : Int} (h : klo k ≤ n ∧ n ≤ khi k) : k.wrap n = n := by
  cases k <;> simp only [klo, khi] at h <;> simp [IntKind.wrap, IntKind.bits, IntKind.signed] <;> omega

section
variable {P : Program} {F : Frm} {H H' : Heap} {x y c a : Operand} {t t' e : TypeId} {k k' : IntKind} {m n : Int} {v u : AV}

theorem o_mv (hx : evx F x = some v) : OpOk P (.move x) F H v H := evx_eq hx ▸ ok_move x
theorem o_as (hx : evx F x = some v) : OpOk P (.assign x) F H v H := evx_eq hx ▸ ok_assign x
theorem o_pkt (hc : evx F c = some (.raw (.bool true))) (hx : evx F x = some v) : OpOk P (.pick c x y) F H v H := by
  have := ok_pick (P := P) (H := H) (a := x) (b := y) (evx_eq hc); rw [if_pos rfl, evx_eq hx] at this; exact this
theorem o_pkf (hc : evx F c = some (.raw (.bool false))) (hy : evx F y = some v) : OpOk P (.pick c x y) F H v H := by
  have := ok_pick (P := P) (H := H) (a := x) (b := y) (evx_eq hc); rw [if_neg (by decide), evx_eq hy] at this; exact this

theorem o_bin {op : BinOp} {p q r : Value} (hx : evx F x = some (.raw p)) (hy : evx F y = some (.raw q)) (h : rawBin P op t p q = some r) : OpOk P (.binOp op t x y t') F H (.raw r) H :=
  ok_bin (evx_eq hx) (evx_eq hy) h
theorem o_add (hx : evx F x = some (.raw (.int k m))) (hy : evx F y = some (.raw (.int k n))) (hb : klo k ≤ m + n ∧ m + n ≤ khi k) : OpOk P (.binOp .add t x y t') F H (.raw (.int k (m + n))) H :=
  o_bin hx hy (by simp [rawBin, wrap_id hb])
theorem o_sub (hx : evx F x = some (.raw (.int k m))) (hy : evx F y = some (.raw (.int k n))) (hb : klo k ≤ m - n ∧ m - n ≤ khi k) : OpOk P (.binOp .sub t x y t') F H (.raw (.int k (m - n))) H :=
  o_bin hx hy (by simp [rawBin, wrap_id hb])
theorem o_mul (hx : evx F x = some (.raw (.int k m))) (hy : evx F y = some (.raw (.int k n))) (hb : klo k ≤ m * n ∧ m * n ≤ khi k) : OpOk P (.binOp .mul t x y t') F H (.raw (.int k (m * n))) H :=
  o_bin hx hy (by simp [rawBin, wrap_id hb])
theorem o_quo (hx : evx F x = some (.raw (.int k m))) (hy : evx F y = some (.raw (.int k n))) (h0 : 0 ≤ m ∧ m ≤ khi k) (hn : 0 < n) : OpOk P (.binOp .quo t x y t') F H (.raw (.int k (m / n))) H :=
  o_bin hx hy (by
    have h1 : n ≠ 0 := by omega
    have h2 : m.tdiv n = m / n := Int.tdiv_eq_ediv_of_nonneg h0.1
    have h3 : 0 ≤ m / n := Int.ediv_nonneg h0.1 (by omega)
    have h4 : m / n ≤ m := Int.ediv_le_self _ h0.1
    have h5 : klo k ≤ 0 := by cases k <;> decide
    simp [rawBin, h1, h2, wrap_id (k := k) (n := m / n) ⟨by omega, by omega⟩])
theorem o_quot (hx : evx F x = some (.raw (.int k m))) (hy : evx F y = some (.raw (.int k n))) (hn : 0 < n) (h0 : klo k ≤ m ∧ m ≤ khi k) : OpOk P (.binOp .quo t x y t') F H (.raw (.int k (m.tdiv n))) H :=
  o_bin hx hy (by
    have h1 : n ≠ 0 := by omega
    have h5 : klo k ≤ 0 := by cases k <;> decide
    have h6 : 0 ≤ khi k := by cases k <;> decide
    have h2 : klo k ≤ m.tdiv n ∧ m.tdiv n ≤ khi k := by
      rcases Int.le_total 0 m with h | h
      · have h7 : m.tdiv n = m / n := Int.tdiv_eq_ediv_of_nonneg h
        have h3 : 0 ≤ m / n := Int.ediv_nonneg h (by omega)
        have h4 : m / n ≤ m := Int.ediv_le_self _ h
        omega
      · have h7 : (-m).tdiv n = -m / n := Int.tdiv_eq_ediv_of_nonneg (by omega)
        have h8 : (-m).tdiv n = -(m.tdiv n) := Int.neg_tdiv ..
        have h3 : 0 ≤ -m / n := Int.ediv_nonneg (by omega) (by omega)
        have h4 : -m / n ≤ -m := Int.ediv_le_self _ (by omega)
        omega
    simp [rawBin, h1, wrap_id h2])
theorem o_rem (hx : evx F x = some (.raw (.int k m))) (hy : evx F y = some (.raw (.int k n))) (h0 : 0 ≤ m) (hn : 0 < n) : OpOk P (.binOp .rem t x y t') F H (.raw (.int k (m % n))) H :=
  o_bin hx hy (by have h1 : n ≠ 0 := by omega
                  simp [rawBin, h1, Int.tmod_eq_emod_of_nonneg h0])
theorem o_remt (hx : evx F x = some (.raw (.int k m))) (hy : evx F y = some (.raw (.int k n))) (hn : n ≠ 0) : OpOk P (.binOp .rem t x y t') F H (.raw (.int k (m.tmod n))) H :=
  o_bin hx hy (by simp [rawBin, hn])
theorem o_lt (hx : evx F x = some (.raw (.int k m))) (hy : evx F y = some (.raw (.int k n))) : OpOk P (.binOp .lss t x y t') F H (.raw (.bool (decide (m < n)))) H := o_bin hx hy (by simp [rawBin])
theorem o_le (hx : evx F x = some (.raw (.int k m))) (hy : evx F y = some (.raw (.int k n))) : OpOk P (.binOp .leq t x y t') F H (.raw (.bool (decide (m ≤ n)))) H := o_bin hx hy (by simp [rawBin])
theorem o_gt (hx : evx F x = some (.raw (.int k m))) (hy : evx F y = some (.raw (.int k n))) : OpOk P (.binOp .gtr t x y t') F H (.raw (.bool (decide (m > n)))) H := o_bin hx hy (by simp [rawBin])
theorem o_ge (hx : evx F x = some (.raw (.int k m))) (hy : evx F y = some (.raw (.int k n))) : OpOk P (.binOp .geq t x y t') F H (.raw (.bool (decide (m ≥ n)))) H := o_bin hx hy (by simp [rawBin])
theorem o_eq (hx : evx F x = some (.raw (.int k m))) (hy : evx F y = some (.raw (.int k n))) : OpOk P (.binOp .eql t x y t') F H (.raw (.bool (decide (m = n)))) H := o_bin hx hy (by
  simp only [rawBin, if_pos]; congr 2)
theorem o_ne (hx : evx F x = some (.raw (.int k m))) (hy : evx F y = some (.raw (.int k n))) : OpOk P (.binOp .neq t x y t') F H (.raw (.bool (decide (m ≠ n)))) H := o_bin hx hy (by
  simp only [rawBin, if_pos]; congr 2
  by_cases h : m = n <;> simp [h])
theorem o_nt {b : Bool} (hx : evx F x = some (.raw (.bool b))) : OpOk P (.unOp .not t x) F H (.raw (.bool (!b))) H := ok_un (evx_eq hx) rfl
theorem o_ntt (hx : evx F x = some (.raw (.bool true))) : OpOk P (.unOp .not t x) F H (.raw (.bool false)) H := ok_un (evx_eq hx) rfl
theorem o_ntf (hx : evx F x = some (.raw (.bool false))) : OpOk P (.unOp .not t x) F H (.raw (.bool true)) H := ok_un (evx_eq hx) rfl
theorem o_neg (hx : evx F x = some (.raw (.int k n))) (hb : klo k ≤ 0 - n ∧ 0 - n ≤ khi k) : OpOk P (.unOp .neg t x) F H (.raw (.int k (0 - n))) H := ok_un (evx_eq hx) (by simp only [rawUn, wrap_id hb])
theorem o_shr (hx : evx F x = some (.raw (.int k m))) (hy : evx F y = some (.raw (.int k' n))) (h0 : 0 ≤ n) : OpOk P (.binOp .shr t x y t') F H (.raw (.int k (m / 2 ^ min n.toNat k.bits))) H :=
  .still fun K C ρ oo ho hp hH hρ => by
    have h1 : ρ x = .int k m := Vl.raw_inv (evx_eq hx ▸ hρ x)
    have h2 : ρ y = .int k' n := Vl.raw_inv (evx_eq hy ▸ hρ y)
    refine ⟨_, ?_, .raw _⟩
    simp only [execOp, ho, h1, h2, Sem.run_bind, show eqGuard .shr t x y (.int k m) (.int k' n) = pure () from rfl, Sem.run_pure, Result.andThen_ok, binOp_shr, shift_shr_any k k' m n h0]
theorem o_cv {s d : TypeId} {ks : IntKind} (hs : intKindOf P s = some ks) (hd : intKindOf P d = some k') (hx : evx F x = some (.raw (.int k n))) (hb : klo k' ≤ n ∧ n ≤ khi k') :
    OpOk P (.convert s d x) F H (.raw (.int k' n)) H := by have := ok_conv (P := P) (H := H) hs hd (evx_eq hx); rw [wrap_id hb] at this; exact this
theorem o_min {ty : Array TypeId} (hx : evx F x = some (.raw (.int k m))) (hy : evx F y = some (.raw (.int k' n))) : OpOk P (.call { callee := .builtin .min, args := #[x, y], argTypes := ty }) F H (.raw (.int k (min m n))) H :=
  .still fun K C ρ oo ho hp hH hρ => by
    have h1 : ρ x = .int k m := Vl.raw_inv (evx_eq hx ▸ hρ x)
    have h2 : ρ y = .int k' n := Vl.raw_inv (evx_eq hy ▸ hρ y)
    refine ⟨.int k (min m n), ?_, .raw _⟩
    simp only [execOp, ho, resolve, Sem.run_bind, Sem.run_pure, Result.andThen_ok, invoke, builtin]
    simp only [List.map_toArray, List.map_cons, List.map_nil, h1, h2]
    simp only [Sem.run_bind, run_min_int2, Result.andThen_ok, Sem.run_pure]
    have : (if n < m then n else m) = min m n := by rw [Int.min_def]; split <;> split <;> omega
    rw [this]
theorem o_max {ty : Array TypeId} (hx : evx F x = some (.raw (.int k m))) (hy : evx F y = some (.raw (.int k' n))) : OpOk P (.call { callee := .builtin .max, args := #[x, y], argTypes := ty }) F H (.raw (.int k (max m n))) H :=
  .still fun K C ρ oo ho hp hH hρ => by
    have h1 : ρ x = .int k m := Vl.raw_inv (evx_eq hx ▸ hρ x)
    have h2 : ρ y = .int k' n := Vl.raw_inv (evx_eq hy ▸ hρ y)
    refine ⟨.int k (max m n), ?_, .raw _⟩
    simp only [execOp, ho, resolve, Sem.run_bind, Sem.run_pure, Result.andThen_ok, invoke, builtin]
    simp only [List.map_toArray, List.map_cons, List.map_nil, h1, h2]
    simp only [Sem.run_bind, run_max_int2, Result.andThen_ok, Sem.run_pure]
    have : (if m < n then n else m) = max m n := by rw [Int.max_def]; split <;> split <;> omega
    rw [this]

/-! ### parts -/
theorem o_ex {i : Nat} {vs : List AV} (hx : evx F x = some (.tup vs)) (hi : nthX vs i = some v) : OpOk P (.extract x i) F H v H := ok_extract (evx_eq hx) ((nthX_eq _ _).symm.trans hi)
theorem o_nc (hx : evx F x = some v) (hp : isPtr v = true) : OpOk P (.nilCheck x) F H v H := by
  have := ok_nilCheck (P := P) (H := H) (x := x) (F := F) (by rw [evx_eq hx]; exact hp); rw [evx_eq hx] at this; exact this
theorem o_mf {f : FuncId} {p q : Array Operand} {ps qs : List AV} (h1 : evs F p.toList = some ps) (h2 : evs F q.toList = some qs) : OpOk P (.makeFunc (.func f) p q) F H (.fn f ps qs) H := by
  have := ok_makeFunc (P := P) (F := F) (H := H) (f := f) (a := p) (b := q); rw [evs_eq h1, evs_eq h2] at this; exact this

/-- Reading cells. -/
def rdX (H : Heap) (a : AV) (n : Nat) : Option (List AV) :=
  match a with
  | .ptr i off => match nthX H i with
    | some (.var cs) => match dropX off cs with | some r => takeX n r | none => none
    | _ => none
  | .rp cs => takeX n cs
  | _ => none
theorem rdX_eq {a : AV} {n : Nat} {cs : List AV} (h : rdX H a n = some cs) : rdCells H a n = some cs := by
  cases a <;> simp only [rdX] at h <;> try cases h
  · simp only [rdCells]
    rw [nthX_eq] at h
    split at h
    · rename_i cs' hq
      rw [hq]
      split at h
      · rename_i r hd
        obtain ⟨h1, rfl⟩ := dropX_eq _ _ _ hd
        obtain ⟨h2, h3⟩ := takeX_eq _ _ _ h
        simp at h2
        simp only []
        rw [if_pos (by omega), h3]
      · cases h
    · cases h
  · obtain ⟨h2, h3⟩ := takeX_eq _ _ _ h
    simp only [rdCells]
    rw [if_pos h2, h3]

theorem o_ldg {N : Nat} {cs : List AV} (hg : tagg P t = some true) (hn : tsize P t = some N) (hx : evx F x = some u) (h : rdX H u N = some cs) : OpOk P (.load t x) F H (.agg cs) H :=
  ok_load (by simp only [rdVar, hg, hn, evx_eq hx, rdX_eq h, Option.map_some])
theorem o_ld (hg : tagg P t = some false) (hx : evx F x = some u) (h : rdX H u 1 = some [v]) : OpOk P (.load t x) F H v H :=
  ok_load (by simp only [rdVar, hg, evx_eq hx, rdX_eq h, Option.bind_some]; rfl)
/-- Reading in a row of the call's own. -/
theorem pel_rd {i ver j off z N : Nat} {es : List AV} {el : AV} {r : List AV} (hH : H[i]? = some (.vec z ver es)) (he : es[j]? = some el) (h : rdX [] (.rp el.cells) (off + N) = some r) : rdCells H (.pel i ver j off) N = some (r.drop off) := by
  simp only [rdX] at h
  obtain ⟨h1, rfl⟩ := takeX_eq _ _ _ h
  simp only [rdCells, hH, he, if_true]
  rw [if_pos h1]
  congr 1
  apply List.ext_getElem?
  intro q
  simp only [List.getElem?_take, List.getElem?_drop]
  split <;> split <;> first | rfl | omega
theorem o_ldp {i ver j off z : Nat} {es : List AV} {el : AV} (hg : tagg P t = some false) (hx : evx F x = some (.pel i ver j off)) (hH : H[i]? = some (.vec z ver es)) (he : es[j]? = some el) (h : nthX el.cells off = some v) : OpOk P (.load t x) F H v H :=
  ok_load (by
    simp only [rdVar, hg, evx_eq hx, rdCells, hH, he, if_true]
    rw [nthX_eq] at h
    have := get_lt h
    rw [if_pos (by omega)]
    simp [h])
theorem o_ldpg {i ver j N z : Nat} {es : List AV} {el : AV} {cs : List AV} (hg : tagg P t = some true) (hn : tsize P t = some N) (hx : evx F x = some (.pel i ver j 0)) (hH : H[i]? = some (.vec z ver es)) (he : es[j]? = some el) (h : takeX N el.cells = some cs) :
    OpOk P (.load t x) F H (.agg cs) H :=
  ok_load (by
    obtain ⟨h1, h2⟩ := takeX_eq _ _ _ h
    simp only [rdVar, hg, hn, evx_eq hx, rdCells, hH, he, if_true, Nat.zero_add, if_pos h1, List.drop_zero, h2, Option.map_some])

def padX (a : AV) (n : Nat) : Option AV :=
  match a with
  | .ptr i off => some (.ptr i (off + n))
  | .rp cs => match dropX n cs with | some r => some (.rp r) | none => none
  | _ => none
theorem o_fa {s : TypeId} {f o : Nat} (hf : fieldOff P s f = some (o, t)) (hx : evx F x = some u) (h : padX u o = some v) : OpOk P (.fieldAddr s x f) F H v H := by
  refine ok_fieldAddr hf ?_ ?_
  · rw [evx_eq hx]; cases u <;> first | rfl | (simp only [padX] at h; cases h)
  · rw [evx_eq hx]
    cases u <;> simp only [padX] at h <;> try cases h
    · rfl
    · split at h
      · rename_i r hd
        cases h
        obtain ⟨h1, rfl⟩ := dropX_eq _ _ _ hd
        simp [ptrAdd, h1]
      · cases h
theorem o_fap {s : TypeId} {f o i ver j off z : Nat} {es : List AV} (hf : fieldOff P s f = some (o, t)) (hx : evx F x = some (.pel i ver j off)) (hH : H[i]? = some (.vec z ver es)) : OpOk P (.fieldAddr s x f) F H (.pel i ver j (off + o)) H := by
  refine ok_fieldAddr hf ?_ ?_
  · rw [evx_eq hx]; simp [fresh, hH]
  · rw [evx_eq hx]; rfl
theorem o_ix {i : Operand} {z j : Nat} {b : Bool} {es : List AV} (ht : sliceElem P t = some e) (hz : tsize P e = some z) (hx : evx F x = some (.sl z b es)) (hi : evx F i = some (.raw (.int k n))) (hn : n = (j : Int)) (hv : es[j]? = some v) :
    OpOk P (.indexAddr t x i) F H (.rp v.cells) H := by
  subst hn
  exact ok_indexAddr_sl ht hz (evx_eq hx) (evx_eq hi) (by omega) (by simpa using hv)
theorem o_ixo {i : Operand} {z j q ver off len : Nat} {es : List AV} (ht : sliceElem P t = some e) (hz : tsize P e = some z) (hx : evx F x = some (.slo q ver off len)) (hH : H[q]? = some (.vec z ver es)) (hi : evx F i = some (.raw (.int k n))) (hn : n = (j : Int)) (hj : j < len) :
    OpOk P (.indexAddr t x i) F H (.pel q ver (off + j) 0) H := by
  subst hn
  exact ok_indexAddr_slo ht hz (evx_eq hx) hH (evx_eq hi) (by omega) (by omega)
theorem o_len {j q : Nat} (hx : evx F x = some v) (hl : lenAV H v = some q) (hq : q = j) (ht : lenTy P t = some (lenKind v)) : OpOk P (.call { callee := .builtin .len, args := #[x], argTypes := #[t] }) F H (.raw (.int .i64 (j : Int))) H := by
  subst hq; exact ok_len (ty := #[]) (by rw [evx_eq hx]; exact hl) (by rw [evx_eq hx]; exact ht)

/-! ### new memory -/
theorem o_box {N : Nat} (hx : evx F x = some v) (hg : v.goodPart H = true) (hN : H.length = N) (hH : snocX H (.var v.cells) = some H') : OpOk P (.box t x) F H (.ptr N 0) H' := by
  have := ok_box (P := P) (t := t) (x := x) (F := F) (H := H) (by rw [evx_eq hx]; exact hg)
  rw [evx_eq hx, snocX_eq _ _ _ hH, hN] at this; exact this
theorem o_al {N : Nat} {zs : List Value} {cs : List AV} (hz : tzero P t = some zs) (hc : rawsX zs = some cs) (hN : H.length = N) (hH : snocX H (.var cs) = some H') : OpOk P (.alloc t) F H (.ptr N 0) H' := by
  have := ok_alloc (P := P) (t := t) (F := F) (H := H) hz
  rw [rawsX_eq _ _ hc, snocX_eq _ _ _ hH, hN] at this; exact this

/-- Writing cells. -/
def wrX (H : Heap) (a : AV) (xs : List AV) : Option Heap :=
  match a with
  | .ptr i off => match nthX H i with
    | some (.var cs) => match setsX cs off xs with | some r => setX H i (.var r) | none => none
    | _ => none
  | _ => none
theorem o_st {N : Nat} (hs : tsize P t = some (N + 1)) (hx : evx F x = some v) (hN : v.cells.length = N + 1) (hg : v.goodPart H = true) (ha : evx F a = some u) (hw : wrX H u v.cells = some H') : OpOk P (.store t a x) F H (.raw undef) H' := by
  refine ok_store (by rw [evx_eq hx, hN]; exact hs) (by rw [evx_eq hx]; exact hg) ?_
  rw [evx_eq hx, evx_eq ha]
  cases u <;> simp only [wrX] at hw <;> try cases hw
  simp only [wrCells]
  rw [nthX_eq] at hw
  split at hw
  · rename_i cs hq
    rw [hq]
    split at hw
    · rename_i r hr
      obtain ⟨h1, rfl⟩ := setsX_eq _ _ _ _ hr
      obtain ⟨_, rfl⟩ := setX_eq _ _ _ _ hw
      simp only []
      rw [if_pos]
      rcases h1 with h | h
      · rw [h] at hN; simp at hN
      · exact h
    · cases hw
  · cases hw
theorem o_stp {N i ver j off z : Nat} {es : List AV} {el : AV} (hs : tsize P t = some (N + 1)) (hx : evx F x = some v) (hN : v.cells.length = N + 1) (hg : v.goodPart H = true) (ha : evx F a = some (.pel i ver j off)) (hH : H[i]? = some (.vec z ver es)) (he : es[j]? = some el)
    (ho : elemOk el v.cells = true) (hle : off + (N + 1) ≤ el.cells.length) : OpOk P (.store t a x) F H (.raw undef) (H.set i (.vec z ver (es.set j (putElem el off v.cells)))) := by
  refine ok_store (by rw [evx_eq hx, hN]; exact hs) (by rw [evx_eq hx]; exact hg) ?_
  rw [evx_eq hx, evx_eq ha]
  simp only [wrCells, hH, he, if_true]
  rw [if_pos ⟨by omega, by omega, ho⟩]

/-- Parts of a literal. -/
def partX (F : Frm) : List (Nat × Operand) → Option (List (Nat × AV))
  | [] => some []
  | (i, x) :: l => match evx F x with
    | some v => match partX F l with
      | some r => some ((i, v) :: r)
      | none => none
    | none => none
theorem partX_eq : ∀ (l : List (Nat × Operand)) (r : List (Nat × AV)), partX F l = some r → l.map (fun p => (p.1, ev F p.2)) = r
  | [], r, h => by cases h; rfl
  | (i, x) :: l, r, h => by
    simp only [partX] at h
    cases h1 : evx F x with
    | none => rw [h1] at h; cases h
    | some v =>
      rw [h1] at h
      cases h2 : partX F l with
      | none => rw [h2] at h; cases h
      | some r' => rw [h2] at h; cases h; rw [List.map_cons, partX_eq l r' h2, evx_eq h1]

/-- Cells of a struct's literal, filled. -/
def fillX (pl : List (Nat × Nat)) (H : Heap) : List AV → List (Nat × AV) → Option (List AV)
  | cells, [] => some cells
  | cells, (i, v) :: rest => match nthX pl i with
    | none => none
    | some (off, size) => bif v.cells.length.beq size && v.goodPart H && (off + size).ble cells.length then match setsX cells off v.cells with
      | some r => fillX pl H r rest
      | none => none else none
theorem fillX_eq (pl : List (Nat × Nat)) : ∀ (l : List (Nat × AV)) (cs out : List AV), fillX pl H cs l = some out → afill (pl[·]?) H cs l = some out
  | [], cs, out, h => by cases h; rfl
  | (i, v) :: l, cs, out, h => by
    simp only [fillX, nthX_eq] at h
    simp only [afill]
    cases hp : pl[i]? with
    | none => rw [hp] at h; cases h
    | some q =>
      obtain ⟨off, size⟩ := q
      rw [hp] at h
      simp only [] at h ⊢
      cases hc : (v.cells.length.beq size && v.goodPart H && (off + size).ble cs.length) with
      | false => rw [hc] at h; cases h
      | true =>
        rw [hc] at h
        simp only [Bool.and_eq_true, Nat.ble_eq] at hc
        rw [if_pos ⟨Nat.eq_of_beq_eq_true hc.1.1, hc.2, hc.1.2⟩]
        simp only [cond_true] at h
        cases hs : setsX cs off v.cells with
        | none => rw [hs] at h; cases h
        | some r =>
          rw [hs] at h
          obtain ⟨_, rfl⟩ := setsX_eq _ _ _ _ hs
          exact fillX_eq pl l _ out h
theorem o_bd {parts : Array (Nat × Operand)} {zs : List Value} {cs : List AV} {pl : List (Nat × Nat)} {ps : List (Nat × AV)} {out : List AV} (hz : tzero P t = some zs) (hc : rawsX zs = some cs) (hpl : structPlaces P t = some pl) (hps : partX F parts.toList = some ps)
    (hf : fillX pl H cs ps = some out) : OpOk P (.build t parts) F H (.agg out) H :=
  ok_build hz hpl (by rw [rawsX_eq _ _ hc, partX_eq _ _ hps]; exact fillX_eq pl _ _ _ hf)

def litX (H : Heap) (z : Nat) : List AV → List (Nat × AV) → Option (List AV)
  | es, [] => some es
  | es, (i, v) :: rest => bif v.cells.length.beq z && v.goodPart H then match setX es i v with
      | some r => litX H z r rest
      | none => none else none
theorem litX_eq {z : Nat} : ∀ (l : List (Nat × AV)) (cs out : List AV), litX H z cs l = some out → litElems P H e z cs l = some out
  | [], cs, out, h => by cases h; rfl
  | (i, v) :: l, cs, out, h => by
    simp only [litX] at h
    simp only [litElems]
    cases hc : (v.cells.length.beq z && v.goodPart H) with
    | false => rw [hc] at h; cases h
    | true =>
      rw [hc] at h
      simp only [Bool.and_eq_true] at hc
      simp only [cond_true] at h
      cases hs : setX cs i v with
      | none => rw [hs] at h; cases h
      | some r =>
        rw [hs] at h
        obtain ⟨hl, rfl⟩ := setX_eq _ _ _ _ hs
        rw [if_pos ⟨hl, Nat.eq_of_beq_eq_true hc.1, hc.2⟩]
        exact litX_eq l _ out h
def repX (x : AV) : Nat → Option (List AV)
  | 0 => some []
  | n + 1 => match repX x n with | some r => some (x :: r) | none => none
theorem repX_eq (x : AV) : ∀ (n : Nat) (r : List AV), repX x n = some r → List.replicate n x = r
  | 0, r, h => by cases h; rfl
  | n + 1, r, h => by
    simp only [repX] at h
    cases hq : repX x n with
    | none => rw [hq] at h; cases h
    | some r' => rw [hq] at h; cases h; rw [List.replicate_succ, repX_eq x n r' hq]

/-- What the literal of a row needs of its element's type. -/
structure ElemOk (P : Program) (t e : TypeId) (z : Nat) (zs : List Value) (x : AV) (bytes : Nat) : Prop where
  ht : sliceElem P t = some e
  hz : tsize P e = some z
  hzero : tzero P e = some zs
  hzl : zs.length = z
  hz0 : 0 < z
  hx : zeroAV P e = some x
  hraw : ∀ z ∈ zs, z.oneCell' = true
  hby : tbytes P e = some bytes

theorem o_bs {len z bytes : Nat} {zs : List Value} {x : AV} {parts : Array (Nat × Operand)} {ps : List (Nat × AV)} {rs es : List AV} (he : ElemOk P t e z zs x bytes) (hb : len * z ≤ 16777216) (hps : partX F parts.toList = some ps) (hr : repX x len = some rs) (hl : litX H z rs ps = some es) :
    OpOk P (.buildSlice t len parts) F H (.sl z true es) H :=
  ok_buildSlice he.ht he.hz he.hzero he.hzl he.hz0 he.hx he.hraw hb (by rw [partX_eq _ _ hps, repX_eq _ _ _ hr]; exact litX_eq _ _ _ hl)
theorem o_bso {len z bytes N : Nat} {zs : List Value} {x : AV} {parts : Array (Nat × Operand)} {ps : List (Nat × AV)} {rs es : List AV} (he : ElemOk P t e z zs x bytes) (hb : len * z ≤ 16777216) (hps : partX F parts.toList = some ps) (hr : repX x len = some rs) (hl : litX H z rs ps = some es)
    (hN : H.length = N) (hH : snocX H (.vec z 0 es) = some H') : OpOk P (.buildSlice t len parts) F H (.slo N 0 0 len) H' := by
  have := ok_buildSlice_own (F := F) (H := H) (len := len) (parts := parts) he.ht he.hz he.hzero he.hzl he.hz0 he.hx he.hraw hb (by rw [partX_eq _ _ hps, repX_eq _ _ _ hr]; exact litX_eq _ _ _ hl)
  rw [hN, snocX_eq _ _ _ hH] at this; exact this
theorem o_ms {l c : Operand} {z bytes N : Nat} {zs : List Value} {x : AV} {kl kc : IntKind} {n m : Int} (he : ElemOk P t e z zs x bytes) (hl : evx F l = some (.raw (.int kl n))) (hc : evx F c = some (.raw (.int kc m))) (h0 : 0 ≤ n) (hnm : n ≤ m)
    (hb : (bytes : Int) * m ≤ 281474976710656) (h63 : m ≤ 9223372036854775807) (hN : H.length = N) (hH : snocX H (.vec z 0 (List.replicate n.toNat x)) = some H') : OpOk P (.makeSlice t l c) F H (.slo N 0 0 n.toNat) H' := by
  have := ok_makeSlice (P := P) (F := F) (H := H) he.ht he.hz he.hby he.hzero he.hzl he.hz0 he.hx he.hraw (evx_eq hl) (evx_eq hc) h0 hnm hb h63
  rw [hN, snocX_eq _ _ _ hH] at this; exact this
theorem o_ap {q ver len z bytes ver' len' : Nat} {zs : List Value} {x0 : AV} {es new out : List AV} (he : ElemOk P t e z zs x0 bytes) (hs : evx F x = some (.slo q ver 0 len)) (hH : H[q]? = some (.vec z ver es)) (hlen : len = es.length) (hy : evx F y = some v) (hnew : srcElems H z v = some new)
    (hg : new.all (AV.goodPart H) = true) (hb : (es.length + new.length) * bytes ≤ 140737488355328) (h63 : es.length + new.length ≤ 9223372036854775807) (hver : ver + 1 = ver') (hlen' : len + new.length = len') (hout : es ++ new = out) (hH' : setX H q (.vec z ver' out) = some H') :
    OpOk P (.call { callee := .builtin .append, args := #[x, y], argTypes := #[t, t] }) F H (.slo q ver' 0 len') H' := by
  subst hver hlen' hout
  have := ok_append_slo (P := P) (F := F) (H := H) (s := x) (x := y) (t := t) he.ht he.hz he.hby he.hzero he.hzl (evx_eq hs) hH hlen (by rw [evx_eq hy]; exact hnew) hg hb h63
  rw [(setX_eq _ _ _ _ hH').2] at this; exact this
theorem o_apn {z bytes len' N : Nat} {zs : List Value} {x0 : AV} {new : List AV} (he : ElemOk P t e z zs x0 bytes) (hs : evx F x = some (.raw (.slice none 0 0))) (hy : evx F y = some v) (hnew : srcElems H z v = some new)
    (hg : new.all (AV.goodPart H) = true) (hb : new.length * bytes ≤ 140737488355328) (h63 : new.length ≤ 9223372036854775807) (hlen' : new.length = len') (hN : H.length = N) (hH' : snocX H (.vec z 1 new) = some H') :
    OpOk P (.call { callee := .builtin .append, args := #[x, y], argTypes := #[t, t] }) F H (.slo N 1 0 len') H' := by
  subst hlen'
  have := ok_append_nil (P := P) (F := F) (H := H) (s := x) (x := y) (t := t) he.ht he.hz he.hz0 he.hby he.hzero he.hzl (evx_eq hs) (by rw [evx_eq hy]; exact hnew) hg hb h63
  rw [hN, snocX_eq _ _ _ hH'] at this; exact this
end
end Go.Ab
