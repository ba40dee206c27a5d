/- What functions of this program compute, and the laws of what they compute, under the bounds on lengths that each contract states. -/
import Derived.Test.YtegbbhaghlcckaaSB
import Derived.Test.YtegbbhaghlcckaaGD

set_option linter.unusedSimpArgs false
set_option linter.unusedVariables false
namespace Go.Ab.S
open Go Go.Ab Go.Proofs
structure StopR where
  id : Int
  vol : Int
structure SeatR where
  stop : Int
  vol : Int
  fst : Int
  snd : Int
def stopAV (x : StopR) : AV := .agg [.raw (.int .i64 x.id), .raw (.int .i64 x.vol)]
def seatAV (x : SeatR) : AV := .agg [.raw (.int .i64 x.stop), .raw (.int .i64 x.vol), .raw (.int .i64 x.fst), .raw (.int .i64 x.snd)]
@[simp] theorem pur_stop (x : StopR) : Pur (stopAV x) ↔ True := by simp [stopAV]
theorem pu_stop (l : List StopR) : ∀ x ∈ l.map stopAV, Pur x := by simp
@[simp] theorem pur_seat (x : SeatR) : Pur (seatAV x) ↔ True := by simp [seatAV]
theorem pu_seat (l : List SeatR) : ∀ x ∈ l.map seatAV, Pur x := by simp
/-- The first number below n at which p holds; -1: none. -/
def fxI (p : Nat → Bool) (n : Nat) : Int := match (List.range n).find? p with | some i => (i : Int) | none => -1
theorem fxI_hit {p : Nat → Bool} {n i : Nat} (h : i < n) (h1 : ∀ j, j < i → p j = false) (h2 : p i = true) : fxI p n = i := by
  have : (List.range n).find? p = some i := by
    rw [List.find?_eq_some_iff_getElem]
    exact ⟨h2, i, by simpa using h, by simp, fun j hj => by simp [h1 j hj]⟩
  rw [fxI, this]
theorem fxI_none {p : Nat → Bool} {n : Nat} (h1 : ∀ j, j < n → p j = false) : fxI p n = -1 := by
  have : (List.range n).find? p = none := by
    rw [List.find?_eq_none]; intro j hj; simp [h1 j (List.mem_range.1 hj)]
  rw [fxI, this]
theorem fxI_neg {p : Nat → Bool} {n : Nat} (h : fxI p n < 0) : ∀ j, j < n → p j = false := by
  intro j hj
  unfold fxI at h
  split at h
  · omega
  · rename_i h1
    have := List.find?_eq_none.1 h1 j (List.mem_range.2 hj)
    simpa using this
theorem all_succ {p : Nat → Bool} {i : Nat} (h1 : ∀ j, j < i → p j = false) (h2 : p i = false) : ∀ j, j < i + 1 → p j = false := fun j hj => by
  rcases Nat.lt_or_ge j i with h | h
  · exact h1 j h
  · have : j = i := by omega
    subst this; exact h2
def seenM (ids : List Int) : Nat → List (Int × Int)
  | 0 => []
  | i + 1 => mput (seenM ids i) (ids.getD i 0) i
theorem seenM_get (ids : List Int) (k : Int) : ∀ i, i ≤ ids.length → (mget (seenM ids i) k).isSome = decide (k ∈ ids.take i)
  | 0, _ => by simp [seenM, mget]
  | i + 1, h => by
    have hi : i < ids.length := by omega
    rw [seenM, mget_put, List.take_succ_eq_append_getElem hi, getDi hi]
    by_cases hk : ids[i] = k
    · simp [hk]
    · rw [if_neg hk, seenM_get ids k i (by omega)]
      simp only [List.mem_append, List.mem_singleton, Ne.symm hk, or_false]
def badStop (l : List StopR) (i : Nat) : Bool := decide ((l.getD i ⟨0, 0⟩).id ∈ (l.map (·.id)).take i) || decide ((l.getD i ⟨0, 0⟩).id < 1) || decide (999999 < (l.getD i ⟨0, 0⟩).id) || decide ((l.getD i ⟨0, 0⟩).vol < 1) || decide (10000 < (l.getD i ⟨0, 0⟩).vol)
theorem badStop_iff {l : List StopR} {i : Nat} (hi : i < l.length) : badStop l i = true ↔ ((mget (seenM (l.map (·.id)) i) l[i].id).isSome = true ∨ l[i].id < 1 ∨ 999999 < l[i].id ∨ l[i].vol < 1 ∨ 10000 < l[i].vol) := by
  have h1 : l.getD i ⟨0, 0⟩ = l[i] := by simp [hi]
  rw [seenM_get (l.map (·.id)) l[i].id i (by simp; omega), badStop, h1]
  simp only [Bool.or_eq_true, decide_eq_true_eq, or_assoc]
theorem badStop_no {l : List StopR} {i : Nat} (hi : i < l.length) (h0 : (mget (seenM (l.map (·.id)) i) l[i].id).isSome = false) (h1 : 1 ≤ l[i].id) (h2 : l[i].id ≤ 999999) (h3 : 1 ≤ l[i].vol) (h4 : l[i].vol ≤ 10000) : badStop l i = false := by
  rw [Bool.eq_false_iff]
  intro h
  rcases (badStop_iff hi).1 h with h | h | h | h | h
  · rw [h0] at h; cases h
  all_goals omega
def wrongS (l : List StopR) : Int := fxI (badStop l) l.length
theorem getDg {α : Type} {l : List α} {k : Nat} {d : α} (h : k < l.length) : l.getD k d = l[k] := by simp [h]
noncomputable def mpI (l : List (Int × Int)) : List (AV × AV) := mpE (l.map fun p => (p.1, intAV p.2))
theorem mt38 : mapTy Try.prog 38 = some (3, 3) := by kernel_rfl
theorem k3 : Try.prog.underlying 3 = some (.int .i64) := by kernel_rfl
theorem mz3 : (Try.prog.info? 3).bind (·.zero) = some (.int .i64 0) := by kernel_rfl
theorem o_lkI {F : Frm} {H : Heap} {x i : Operand} {n : Nat} {l : List (Int × Int)} {k : Int} (hx : evx F x = some (.mp n)) (hH : nthX H n = some (.mapo (mpI l))) (hi : evx F i = some (.raw (.int .i64 k))) :
    OpOk Try.prog (.lookup 38 x i true) F H (.tup [intAV ((mget l k).getD 0), .raw (.bool (mget l k).isSome)]) H := by
  have := o_lk (P := Try.prog) (z := intAV 0) mt38 k3 mz3 (fun C => .raw _) hx (by rw [← nthX_eq]; exact hH) hi true
  simp only [mget_map] at this
  have e : ((mget l k).map intAV).getD (intAV 0) = intAV ((mget l k).getD 0) := by cases mget l k <;> rfl
  rw [e, Option.isSome_map] at this
  exact this
theorem o_lkI0 {F : Frm} {H : Heap} {x i : Operand} {n : Nat} {l : List (Int × Int)} {k : Int} (hx : evx F x = some (.mp n)) (hH : nthX H n = some (.mapo (mpI l))) (hi : evx F i = some (.raw (.int .i64 k))) :
    OpOk Try.prog (.lookup 38 x i false) F H (intAV ((mget l k).getD 0)) H := by
  have := o_lk (P := Try.prog) (z := intAV 0) mt38 k3 mz3 (fun C => .raw _) hx (by rw [← nthX_eq]; exact hH) hi false
  simp only [mget_map] at this
  have e : ((mget l k).map intAV).getD (intAV 0) = intAV ((mget l k).getD 0) := by cases mget l k <;> rfl
  rw [e] at this
  exact this
theorem o_muI {F : Frm} {H H' : Heap} {x i y : Operand} {n : Nat} {l : List (Int × Int)} {k v : Int} (hx : evx F x = some (.mp n)) (hH : nthX H n = some (.mapo (mpI l))) (hi : evx F i = some (.raw (.int .i64 k))) (hy : evx F y = some (.raw (.int .i64 v))) (hH' : setX H n (.mapo (mpI (mput l k v))) = some H') :
    OpOk Try.prog (.mapUpdate 38 x i y) F H (.raw undef) H' := by
  have := o_mu (P := Try.prog) mt38 k3 hx (by rw [← nthX_eq]; exact hH) hi hy
  have e : mput (l.map fun p => (p.1, intAV p.2)) k (intAV v) = (mput l k v).map fun p => (p.1, intAV p.2) := mput_map intAV l k v
  have e2 : mpE (mput (l.map fun p => (p.1, intAV p.2)) k (.raw (.int .i64 v))) = mpI (mput l k v) := by rw [mpI, ← e]; rfl
  rw [e2, (setX_eq _ _ _ _ hH').2] at this
  exact this
theorem ors_mpI {H : Heap} {keep : Nat → Prop} (l : List (Int × Int)) : ORs H keep (.mapo (mpI l)) (.mapo (mpI l)) := by
  have hp : ∀ (k : Nat) (x : AV × AV), (mpI l)[k]? = some x → Pur x.1 ∧ Pur x.2 := fun k x hx => by
    have := List.mem_of_getElem? hx
    simp only [mpI, mpE, List.map_map, List.mem_map] at this
    obtain ⟨p, _, rfl⟩ := this
    simp
  refine .mapo rfl (fun k x x' h1 h2 => ?_) (fun k x x' h1 h2 => ?_)
  · rw [h1] at h2; cases h2; exact (hp k x h1).1.rs
  · rw [h1] at h2; cases h2; exact (hp k x h1).2.rs

noncomputable def r70_0 : Array Oper := opsAt Try.f70 [0]
theorem r70_0_ok : dstOk 50 r70_0.toList = true ∧ r70_0.toList.all (fun o => noDefer o.op) = true := by decide +kernel
noncomputable def r70_1 : Array Oper := opsAt Try.f70 [1, 0]
theorem r70_1_ok : dstOk 50 r70_1.toList = true ∧ r70_1.toList.all (fun o => noDefer o.op) = true := by decide +kernel
noncomputable def r70_2 : Array Oper := opsAt Try.f70 [1, 1, 0, 0]
theorem r70_2_ok : dstOk 50 r70_2.toList = true ∧ r70_2.toList.all (fun o => noDefer o.op) = true := by decide +kernel
noncomputable def r70_3 : Array Oper := opsAt Try.f70 [1, 1, 0, 1, 0, 0, 0]
theorem r70_3_ok : dstOk 50 r70_3.toList = true ∧ r70_3.toList.all (fun o => noDefer o.op) = true := by decide +kernel
noncomputable def r70_4 : Array Oper := opsAt Try.f70 [1, 1, 0, 1, 0, 0, 1, 1, 0, 0, 0]
theorem r70_4_ok : dstOk 50 r70_4.toList = true ∧ r70_4.toList.all (fun o => noDefer o.op) = true := by decide +kernel
noncomputable def r70_5 : Array Oper := opsAt Try.f70 [1, 1, 0, 1, 0, 0, 1, 1, 0, 0, 1, 0, 0]
theorem r70_5_ok : dstOk 50 r70_5.toList = true ∧ r70_5.toList.all (fun o => noDefer o.op) = true := by decide +kernel
noncomputable def r70_6 : Array Oper := opsAt Try.f70 [1, 1, 0, 1, 0, 0, 1, 1, 0, 0, 1, 0, 1, 0]
theorem r70_6_ok : dstOk 50 r70_6.toList = true ∧ r70_6.toList.all (fun o => noDefer o.op) = true := by decide +kernel
noncomputable def r70_7 : Array Oper := opsAt Try.f70 [1, 1, 0, 1, 0, 0, 1, 1, 0, 0, 1, 0, 1, 1, 0, 0]
theorem r70_7_ok : dstOk 50 r70_7.toList = true ∧ r70_7.toList.all (fun o => noDefer o.op) = true := by decide +kernel
noncomputable def r70_8 : Array Oper := opsAt Try.f70 [1, 1, 0, 1, 0, 0, 1, 1, 0, 0, 1, 1]
theorem r70_8_ok : dstOk 50 r70_8.toList = true ∧ r70_8.toList.all (fun o => noDefer o.op) = true := by decide +kernel
noncomputable def r70_9 : Array Oper := opsAt Try.f70 [1, 1, 0, 1, 0, 0, 1, 1, 1]
theorem r70_9_ok : dstOk 50 r70_9.toList = true ∧ r70_9.toList.all (fun o => noDefer o.op) = true := by decide +kernel
noncomputable def b70_0 : Code := (.seq (.region 3 r70_3 false) (.seq (.cond (.tmp 12) .skip (.exit 0)) (.seq (.block 1 (.seq (.region 4 r70_4 false) (.seq (.seq (.region 5 r70_5 false) (.seq (.region 6 r70_6 false) (.cond (.tmp 43) (.seq (.region 7 r70_7 false) .ret) .skip))) (.region 8 r70_8 false)))) (.region 9 r70_9 false))))
noncomputable def r70_10 : Array Oper := opsAt Try.f70 [1, 1, 1, 0]
theorem r70_10_ok : dstOk 50 r70_10.toList = true ∧ r70_10.toList.all (fun o => noDefer o.op) = true := by decide +kernel
noncomputable def c70 : Code := (.seq (.region 0 r70_0 false) (.seq (.region 1 r70_1 false) (.seq (.seq (.region 2 r70_2 false) (.block 0 (.loop b70_0))) (.seq (.region 10 r70_10 false) .ret))))
theorem body70 : Try.f70.body = some c70 := by kernel_rfl
theorem wrongS_ok (b : Fl) (l : List StopR) (hl : l.length ≤ 4611686018427387904) : PureCall Try.prog GL 70 [.sl 2 b (l.map stopAV)] (.raw (.int .i64 (wrongS l))) := by
  refine pure_of_body Try.func70 body70 (Nat.le_of_ble_eq_true rfl) (by simp) (by simp) ?_
  refine w_keep [(0, .sl 2 b (l.map stopAV))] ⟨rfl, trivial⟩ ?_
  unfold c70
  refine awp_seq ?_
  refine w_reg (l := r70_0.toList) rfl r70_0_ok ?_
  refine a_op rfl (o_as rfl) ?_
  refine a_nil ?_
  refine tq_n ?_
  refine awp_seq ?_
  refine w_reg (l := r70_1.toList) rfl r70_1_ok ?_
  refine a_opH rfl (o_mm (N := 0) rfl rfl) (H' := [.mapo (mpI (seenM (l.map (·.id)) 0))]) rfl ?_
  refine a_op rfl (o_as rfl) ?_
  refine a_nil ?_
  refine tq_n ?_
  refine awp_seq ?_
  refine awp_seq ?_
  refine w_reg (l := r70_2.toList) rfl r70_2_ok ?_
  refine a_op rfl (o_mv rfl) ?_
  refine a_op rfl (o_len rfl rfl (by first | exact List.length_map .. | rfl) tl46) ?_
  refine a_op rfl (o_mv rfl) ?_
  refine a_nil ?_
  refine tq_n ?_
  refine awp_block ?_
  refine w_loop (fun i : Nat => i ≤ l.length ∧ ∀ j, j < i → badStop l j = false) (fun i => [(3, .mp 0), (9, .sl 2 b (l.map stopAV)), (10, .raw (.int .i64 ((l.length : Nat) : Int))), (11, .raw (.int .i64 ((i : Nat) : Int)))]) (fun i => [.mapo (mpI (seenM (l.map (·.id)) i))]) (fun i => l.length - i) (0) ⟨by simp, by simp⟩ ⟨(by first | exact sub_int rfl (by omega) | rfl), (by first | exact sub_int rfl (by omega) | rfl), (by first | exact sub_int rfl (by omega) | rfl), (by first | exact sub_int rfl (by omega) | rfl), trivial⟩ rfl ?_
  intro i ⟨hp, hq⟩
  unfold b70_0
  refine awp_seq ?_
  refine w_reg (l := r70_3.toList) rfl r70_3_ok ?_
  refine a_if rfl (o_lt rfl rfl) (fun h1 => ?_) (fun h2 => ?_)
  · refine a_nil ?_
    refine tq_n ?_
    refine awp_seq ?_
    refine w_true rfl ?_
    refine awp_skip ?_
    refine tq_n ?_
    refine awp_seq ?_
    refine awp_block ?_
    refine awp_seq ?_
    have hi : i < l.length := by omega
    have hgid : l.getD i ⟨0, 0⟩ = l[i] := getDg hi
    have hid : l[i].id = (l.map (·.id))[i]'(by simpa using hi) := by simp
    have hsn := seenM_get (l.map (·.id)) l[i].id i (by simpa using hp)
    refine w_reg (l := r70_4.toList) rfl r70_4_ok ?_
    refine a_op rfl (o_mv rfl) ?_
    refine a_op rfl (o_ix te46 tn48 rfl rfl rfl (ixm _ _ _ hi)) ?_
    refine a_op rfl ((by first | exact o_ldg tg48 tn48 rfl rfl | exact o_ldpg tg48 tn48 rfl rfl rfl rfl)) ?_
    refine a_op rfl (o_al (N := 1) tz48 rfl rfl rfl) ?_
    refine a_op rfl (o_as rfl) ?_
    refine a_op0 rfl (o_st (N := 1) tn48 rfl rfl rfl rfl rfl) ?_
    refine a_nil ?_
    refine tq_n ?_
    refine awp_seq ?_
    refine awp_seq ?_
    refine w_reg (l := r70_5.toList) rfl r70_5_ok ?_
    refine a_op rfl (o_mv rfl) ?_
    refine a_op rfl ((by first | exact o_fa tf48_0 rfl rfl | exact o_fap tf48_0 rfl rfl)) ?_
    refine a_op rfl ((by first | exact o_ld tg3 rfl rfl | exact o_ldp tg3 rfl rfl rfl rfl)) ?_
    refine a_op rfl (o_lkI rfl rfl rfl) ?_
    refine a_op rfl (o_mv rfl) ?_
    refine a_op rfl (o_ex rfl rfl) ?_
    refine a_op rfl (o_ex rfl rfl) ?_
    refine a_op rfl (o_as rfl) ?_
    refine a_op rfl (o_as rfl) ?_
    refine a_nil ?_
    refine tq_n ?_
    refine awp_seq ?_
    refine w_reg (l := r70_6.toList) rfl r70_6_ok ?_
    refine a_ifb rfl (o_mv rfl) (fun h3 => ?_) (fun h4 => ?_)
    · refine a_op rfl (o_mv rfl) ?_
      refine a_off rfl ?_
      refine a_off rfl ?_
      refine a_off rfl ?_
      refine a_op rfl (o_pkt rfl rfl) ?_
      refine a_op rfl (o_mv rfl) ?_
      refine a_off rfl ?_
      refine a_off rfl ?_
      refine a_off rfl ?_
      refine a_op rfl (o_pkt rfl rfl) ?_
      refine a_op rfl (o_mv rfl) ?_
      refine a_off rfl ?_
      refine a_off rfl ?_
      refine a_off rfl ?_
      refine a_op rfl (o_pkt rfl rfl) ?_
      refine a_op rfl (o_mv rfl) ?_
      refine a_off rfl ?_
      refine a_off rfl ?_
      refine a_off rfl ?_
      refine a_op rfl (o_pkt rfl rfl) ?_
      refine a_nil ?_
      refine tq_n ?_
      refine w_true rfl ?_
      refine awp_seq ?_
      refine w_reg (l := r70_7.toList) rfl r70_7_ok ?_
      refine a_op rfl (o_mv rfl) ?_
      refine a_op rfl (o_as rfl) ?_
      refine a_nil ?_
      refine tq_n ?_
      refine awp_ret ?_
      refine tq_r ?_
      refine bq_r ?_
      refine tq_r ?_
      refine tq_r ?_
      refine bq_r ?_
      refine tq_r ?_
      refine r_one rfl ⟨rfl, trivial⟩ ?_
      exact rs_int (fxI_hit hi hq ((badStop_iff hi).2 (by first | exact .inl (by assumption) | exact .inr (by omega)))).symm
    refine a_op rfl (o_mv rfl) ?_
    refine a_op rfl ((by first | exact o_fa tf48_0 rfl rfl | exact o_fap tf48_0 rfl rfl)) ?_
    refine a_op rfl ((by first | exact o_ld tg3 rfl rfl | exact o_ldp tg3 rfl rfl rfl rfl)) ?_
    refine a_if rfl (o_lt rfl rfl) (fun h5 => ?_) (fun h6 => ?_)
    · refine a_op rfl (o_pkf rfl rfl) ?_
      refine a_op rfl (o_mv rfl) ?_
      refine a_off rfl ?_
      refine a_off rfl ?_
      refine a_off rfl ?_
      refine a_op rfl (o_pkt rfl rfl) ?_
      refine a_op rfl (o_mv rfl) ?_
      refine a_off rfl ?_
      refine a_off rfl ?_
      refine a_off rfl ?_
      refine a_op rfl (o_pkt rfl rfl) ?_
      refine a_op rfl (o_mv rfl) ?_
      refine a_off rfl ?_
      refine a_off rfl ?_
      refine a_off rfl ?_
      refine a_op rfl (o_pkt rfl rfl) ?_
      refine a_nil ?_
      refine tq_n ?_
      refine w_true rfl ?_
      refine awp_seq ?_
      refine w_reg (l := r70_7.toList) rfl r70_7_ok ?_
      refine a_op rfl (o_mv rfl) ?_
      refine a_op rfl (o_as rfl) ?_
      refine a_nil ?_
      refine tq_n ?_
      refine awp_ret ?_
      refine tq_r ?_
      refine bq_r ?_
      refine tq_r ?_
      refine tq_r ?_
      refine bq_r ?_
      refine tq_r ?_
      refine r_one rfl ⟨rfl, trivial⟩ ?_
      exact rs_int (fxI_hit hi hq ((badStop_iff hi).2 (by first | exact .inl (by assumption) | exact .inr (by omega)))).symm
    refine a_op rfl (o_pkf rfl rfl) ?_
    refine a_op rfl (o_mv rfl) ?_
    refine a_op rfl ((by first | exact o_fa tf48_0 rfl rfl | exact o_fap tf48_0 rfl rfl)) ?_
    refine a_op rfl ((by first | exact o_ld tg3 rfl rfl | exact o_ldp tg3 rfl rfl rfl rfl)) ?_
    refine a_if rfl (o_gt rfl rfl) (fun h7 => ?_) (fun h8 => ?_)
    · refine a_op rfl (o_pkf rfl rfl) ?_
      refine a_op rfl (o_mv rfl) ?_
      refine a_off rfl ?_
      refine a_off rfl ?_
      refine a_off rfl ?_
      refine a_op rfl (o_pkt rfl rfl) ?_
      refine a_op rfl (o_mv rfl) ?_
      refine a_off rfl ?_
      refine a_off rfl ?_
      refine a_off rfl ?_
      refine a_op rfl (o_pkt rfl rfl) ?_
      refine a_nil ?_
      refine tq_n ?_
      refine w_true rfl ?_
      refine awp_seq ?_
      refine w_reg (l := r70_7.toList) rfl r70_7_ok ?_
      refine a_op rfl (o_mv rfl) ?_
      refine a_op rfl (o_as rfl) ?_
      refine a_nil ?_
      refine tq_n ?_
      refine awp_ret ?_
      refine tq_r ?_
      refine bq_r ?_
      refine tq_r ?_
      refine tq_r ?_
      refine bq_r ?_
      refine tq_r ?_
      refine r_one rfl ⟨rfl, trivial⟩ ?_
      exact rs_int (fxI_hit hi hq ((badStop_iff hi).2 (by first | exact .inl (by assumption) | exact .inr (by omega)))).symm
    refine a_op rfl (o_pkf rfl rfl) ?_
    refine a_op rfl (o_mv rfl) ?_
    refine a_op rfl ((by first | exact o_fa tf48_1 rfl rfl | exact o_fap tf48_1 rfl rfl)) ?_
    refine a_op rfl ((by first | exact o_ld tg3 rfl rfl | exact o_ldp tg3 rfl rfl rfl rfl)) ?_
    refine a_if rfl (o_lt rfl rfl) (fun h9 => ?_) (fun h10 => ?_)
    · refine a_op rfl (o_pkf rfl rfl) ?_
      refine a_op rfl (o_mv rfl) ?_
      refine a_off rfl ?_
      refine a_off rfl ?_
      refine a_off rfl ?_
      refine a_op rfl (o_pkt rfl rfl) ?_
      refine a_nil ?_
      refine tq_n ?_
      refine w_true rfl ?_
      refine awp_seq ?_
      refine w_reg (l := r70_7.toList) rfl r70_7_ok ?_
      refine a_op rfl (o_mv rfl) ?_
      refine a_op rfl (o_as rfl) ?_
      refine a_nil ?_
      refine tq_n ?_
      refine awp_ret ?_
      refine tq_r ?_
      refine bq_r ?_
      refine tq_r ?_
      refine tq_r ?_
      refine bq_r ?_
      refine tq_r ?_
      refine r_one rfl ⟨rfl, trivial⟩ ?_
      exact rs_int (fxI_hit hi hq ((badStop_iff hi).2 (by first | exact .inl (by assumption) | exact .inr (by omega)))).symm
    refine a_op rfl (o_pkf rfl rfl) ?_
    refine a_op rfl (o_mv rfl) ?_
    refine a_op rfl ((by first | exact o_fa tf48_1 rfl rfl | exact o_fap tf48_1 rfl rfl)) ?_
    refine a_op rfl ((by first | exact o_ld tg3 rfl rfl | exact o_ldp tg3 rfl rfl rfl rfl)) ?_
    refine a_if rfl (o_gt rfl rfl) (fun h11 => ?_) (fun h12 => ?_)
    · refine a_op rfl (o_pkf rfl rfl) ?_
      refine a_nil ?_
      refine tq_n ?_
      refine w_true rfl ?_
      refine awp_seq ?_
      refine w_reg (l := r70_7.toList) rfl r70_7_ok ?_
      refine a_op rfl (o_mv rfl) ?_
      refine a_op rfl (o_as rfl) ?_
      refine a_nil ?_
      refine tq_n ?_
      refine awp_ret ?_
      refine tq_r ?_
      refine bq_r ?_
      refine tq_r ?_
      refine tq_r ?_
      refine bq_r ?_
      refine tq_r ?_
      refine r_one rfl ⟨rfl, trivial⟩ ?_
      exact rs_int (fxI_hit hi hq ((badStop_iff hi).2 (by first | exact .inl (by assumption) | exact .inr (by omega)))).symm
    refine a_op rfl (o_pkf rfl rfl) ?_
    refine a_nil ?_
    refine tq_n ?_
    refine w_false rfl ?_
    refine awp_skip ?_
    refine tq_n ?_
    refine w_reg (l := r70_8.toList) rfl r70_8_ok ?_
    refine a_op rfl (o_mv rfl) ?_
    refine a_op rfl ((by first | exact o_fa tf48_0 rfl rfl | exact o_fap tf48_0 rfl rfl)) ?_
    refine a_op rfl ((by first | exact o_ld tg3 rfl rfl | exact o_ldp tg3 rfl rfl rfl rfl)) ?_
    refine a_op rfl (o_mv rfl) ?_
    refine a_op0 rfl (o_muI rfl rfl rfl rfl rfl) ?_
    refine a_nil ?_
    refine bq_n ?_
    refine tq_n ?_
    refine w_view [(3, .mp 0), (9, .sl 2 b (l.map stopAV)), (10, .raw (.int .i64 ((l.length : Nat) : Int))), (11, .raw (.int .i64 ((i : Nat) : Int)))] [.mapo (mpI (mput (seenM (l.map (·.id)) i) l[i].id i))] 1 rfl (Nat.le_of_ble_eq_true rfl) (Nat.le_of_ble_eq_true rfl) ⟨⟨_, rfl, (by first | exact .mpK (Nat.le_of_ble_eq_true rfl) | exact .sloK (Nat.le_of_ble_eq_true rfl) | exact .ptrK (Nat.le_of_ble_eq_true rfl) | exact rs_pur (by simp) rfl)⟩, ⟨_, rfl, (by first | exact .mpK (Nat.le_of_ble_eq_true rfl) | exact .sloK (Nat.le_of_ble_eq_true rfl) | exact .ptrK (Nat.le_of_ble_eq_true rfl) | exact rs_pur (by simp) rfl)⟩, ⟨_, rfl, (by first | exact .mpK (Nat.le_of_ble_eq_true rfl) | exact .sloK (Nat.le_of_ble_eq_true rfl) | exact .ptrK (Nat.le_of_ble_eq_true rfl) | exact rs_pur (by simp) rfl)⟩, ⟨_, rfl, (by first | exact .mpK (Nat.le_of_ble_eq_true rfl) | exact .sloK (Nat.le_of_ble_eq_true rfl) | exact .ptrK (Nat.le_of_ble_eq_true rfl) | exact rs_pur (by simp) rfl)⟩, trivial⟩ ⟨ors_mpI _, trivial⟩ ?_
    refine w_reg (l := r70_9.toList) rfl r70_9_ok ?_
    refine a_op rfl (o_add rfl rfl (by simp only [klo, khi]; omega)) ?_
    refine a_op rfl (o_mv rfl) ?_
    refine a_nil ?_
    refine tq_n ?_
    exact ⟨i + 1, ⟨⟨by omega, all_succ hq (badStop_no hi (by assumption) (by omega) (by omega) (by omega) (by omega))⟩, by omega⟩, ⟨(by first | exact sub_int rfl (by omega) | rfl), (by first | exact sub_int rfl (by omega) | rfl), (by first | exact sub_int rfl (by omega) | rfl), (by first | exact sub_int rfl (by omega) | rfl), trivial⟩, by rw [seenM, getDg (by simpa using hi), hid]⟩
  refine a_nil ?_
  refine tq_n ?_
  refine awp_seq ?_
  refine w_false rfl ?_
  refine awp_exit ?_
  refine tq_x ?_
  refine tq_x ?_
  refine bq_hit ?_
  refine tq_n ?_
  refine awp_seq ?_
  refine w_reg (l := r70_10.toList) rfl r70_10_ok ?_
  refine a_op rfl (o_as rfl) ?_
  refine a_nil ?_
  refine tq_n ?_
  refine awp_ret ?_
  refine r_one rfl ⟨rfl, trivial⟩ ?_
  rw [show i = l.length by omega] at hq
  exact rs_int (fxI_none hq).symm
noncomputable def r109_0 : Array Oper := opsAt Try.f109 [0]
theorem r109_0_ok : dstOk 9 r109_0.toList = true ∧ r109_0.toList.all (fun o => noDefer o.op) = true := by decide +kernel
noncomputable def r109_1 : Array Oper := opsAt Try.f109 [1, 0]
theorem r109_1_ok : dstOk 9 r109_1.toList = true ∧ r109_1.toList.all (fun o => noDefer o.op) = true := by decide +kernel
noncomputable def c109 : Code := (.seq (.region 0 r109_0 false) (.seq (.region 1 r109_1 false) .ret))
theorem body109 : Try.f109.body = some c109 := by kernel_rfl
theorem badC2_ok (c : Int) : PureCall Try.prog GL 109 [.raw (.int .i64 c)] (.raw (.bool (badC c))) := by
  refine pure_of_body Try.func109 body109 (Nat.le_of_ble_eq_true rfl) (by simp) (by simp) ?_
  refine w_keep [(0, .raw (.int .i64 c))] ⟨rfl, trivial⟩ ?_
  unfold c109
  refine awp_seq ?_
  refine w_reg (l := r109_0.toList) rfl r109_0_ok ?_
  refine a_op rfl (o_as rfl) ?_
  refine a_nil ?_
  refine tq_n ?_
  refine awp_seq ?_
  refine w_reg (l := r109_1.toList) rfl r109_1_ok ?_
  refine a_op rfl (o_mv rfl) ?_
  refine a_if rfl (o_lt rfl rfl) (fun h1 => ?_) (fun h2 => ?_)
  · refine a_op rfl (o_mv rfl) ?_
    refine a_off rfl ?_
    refine a_off rfl ?_
    refine a_op rfl (o_pkt rfl rfl) ?_
    refine a_op rfl (o_as rfl) ?_
    refine a_nil ?_
    refine tq_n ?_
    refine awp_ret ?_
    refine r_one rfl ⟨rfl, trivial⟩ ?_
    exact rs_pur (by simp) (by simp [badC, *] <;> omega)
  refine a_op rfl (o_mv rfl) ?_
  refine a_op rfl (o_mv rfl) ?_
  refine a_op rfl (o_gt rfl rfl) ?_
  refine a_op rfl (o_pkf rfl rfl) ?_
  refine a_op rfl (o_as rfl) ?_
  refine a_nil ?_
  refine tq_n ?_
  refine awp_ret ?_
  refine r_one rfl ⟨rfl, trivial⟩ ?_
  exact rs_pur (by simp) (by simp [badC, *] <;> omega)
noncomputable def r69_0 : Array Oper := opsAt Try.f69 [0]
theorem r69_0_ok : dstOk 16 r69_0.toList = true ∧ r69_0.toList.all (fun o => noDefer o.op) = true := by decide +kernel
noncomputable def r69_1 : Array Oper := opsAt Try.f69 [1, 0]
theorem r69_1_ok : dstOk 16 r69_1.toList = true ∧ r69_1.toList.all (fun o => noDefer o.op) = true := by decide +kernel
noncomputable def c69 : Code := (.seq (.region 0 r69_0 false) (.seq (.region 1 r69_1 false) .ret))
theorem body69 : Try.f69.body = some c69 := by kernel_rfl
theorem machine2_ok (b : Fl) (xs : List Int) (hl : xs.length ≤ 4611686018427387904) : PureCall Try.prog GL 69 [.sl 1 b (xs.map intAV)] (.raw (.bool (rightF xs))) := by
  refine pure_of_body Try.func69 body69 (Nat.le_of_ble_eq_true rfl) (by simp) (by simp) ?_
  refine w_keep [(0, .sl 1 b (xs.map intAV))] ⟨rfl, trivial⟩ ?_
  unfold c69
  refine awp_seq ?_
  refine w_reg (l := r69_0.toList) rfl r69_0_ok ?_
  refine a_op rfl (o_as rfl) ?_
  refine a_nil ?_
  refine tq_n ?_
  refine awp_seq ?_
  refine w_reg (l := r69_1.toList) rfl r69_1_ok ?_
  refine a_op rfl (o_mv rfl) ?_
  refine a_op rfl (o_len rfl rfl (by first | exact List.length_map .. | rfl) tl34) ?_
  refine a_if rfl (o_gt rfl rfl) (fun h1 => ?_) (fun h2 => ?_)
  · refine a_op rfl (o_mv rfl) ?_
    refine a_op rfl (o_mv rfl) ?_
    refine a_op rfl (o_len rfl rfl (by first | exact List.length_map .. | rfl) tl34) ?_
    refine a_if rfl (o_le rfl rfl) (fun h3 => ?_) (fun h4 => ?_)
    · refine a_op rfl (o_pkt rfl rfl) ?_
      refine a_op rfl (o_mv rfl) ?_
      refine a_op rfl (o_mv rfl) ?_
      refine a_pure rfl rfl rfl cb108 (containsFunc_ok _ _ (by omega) 109 [] (by simp) cb109 badC (fun x _ => badC2_ok x)) ?_
      refine a_op rfl (o_nt rfl) ?_
      refine a_op rfl (o_pkt rfl rfl) ?_
      refine a_op rfl (o_as rfl) ?_
      refine a_nil ?_
      refine tq_n ?_
      refine awp_ret ?_
      refine r_one rfl ⟨rfl, trivial⟩ ?_
      exact rs_pur (by simp) (by simp [rightF, *] <;> omega)
    refine a_op rfl (o_pkt rfl rfl) ?_
    refine a_op rfl (o_mv rfl) ?_
    refine a_off rfl ?_
    refine a_off rfl ?_
    refine a_off rfl ?_
    refine a_op rfl (o_pkf rfl rfl) ?_
    refine a_op rfl (o_as rfl) ?_
    refine a_nil ?_
    refine tq_n ?_
    refine awp_ret ?_
    refine r_one rfl ⟨rfl, trivial⟩ ?_
    exact rs_pur (by simp) (by simp [rightF, *] <;> omega)
  refine a_op rfl (o_mv rfl) ?_
  refine a_off rfl ?_
  refine a_off rfl ?_
  refine a_off rfl ?_
  refine a_op rfl (o_pkf rfl rfl) ?_
  refine a_op rfl (o_mv rfl) ?_
  refine a_off rfl ?_
  refine a_off rfl ?_
  refine a_off rfl ?_
  refine a_op rfl (o_pkf rfl rfl) ?_
  refine a_op rfl (o_as rfl) ?_
  refine a_nil ?_
  refine tq_n ?_
  refine awp_ret ?_
  refine r_one rfl ⟨rfl, trivial⟩ ?_
  exact rs_pur (by simp) (by simp [rightF, *] <;> omega)
end Go.Ab.S
namespace Go.Ab.S
open Go Go.Ab Go.Proofs
structure PlanR where
  caps : List Int
  seats : List SeatR
  first : List Int
  second : List Int
structure B4 where
  b0 : Fl
  b1 : Fl
  b2 : Fl
  b3 : Fl
def planC (b : B4) (p : PlanR) : List AV := [.sl 1 b.b0 (p.caps.map intAV), .sl 4 b.b1 (p.seats.map seatAV), .sl 1 b.b2 (p.first.map intAV), .sl 1 b.b3 (p.second.map intAV)]
def planAV (b : B4) (p : PlanR) : AV := .agg (planC b p)
@[simp] theorem pur_plan (b : B4) (p : PlanR) : Pur (planAV b p) ↔ True := by simp [planAV, planC]
def s0R : SeatR := ⟨0, 0, 0, 0⟩
def stopOf (x : SeatR) : StopR := ⟨x.stop, x.vol⟩
def badSeat (n : Nat) (l : List SeatR) (i : Nat) : Bool :=
  decide (min (l.getD i s0R).fst (l.getD i s0R).snd < 0) || decide ((n : Int) ≤ max (l.getD i s0R).fst (l.getD i s0R).snd) ||
    (decide (0 < i) && (decide ((l.getD i s0R).snd < (l.getD (i - 1) s0R).snd) || (decide ((l.getD i s0R).snd = (l.getD (i - 1) s0R).snd) && decide ((l.getD i s0R).fst ≤ (l.getD (i - 1) s0R).fst))))
def loadS (n : Nat) (sel : SeatR → Int) (l : List SeatR) : Nat → List Int
  | 0 => List.replicate n 0
  | i + 1 => (loadS n sel l i).set (sel (l.getD i s0R)).toNat ((loadS n sel l i).getD (sel (l.getD i s0R)).toNat 0 + (l.getD i s0R).vol)
theorem loadS_len (n : Nat) (sel : SeatR → Int) (l : List SeatR) : ∀ i, (loadS n sel l i).length = n
  | 0 => by simp [loadS]
  | i + 1 => by simp [loadS, loadS_len n sel l i]
theorem loadS_bd (n : Nat) (sel : SeatR → Int) (l : List SeatR) (hv : ∀ x ∈ l, 0 ≤ x.vol ∧ x.vol ≤ 10000) : ∀ i, i ≤ l.length → ∀ v ∈ loadS n sel l i, 0 ≤ v ∧ v ≤ 10000 * i
  | 0, _, v, h => by simp [loadS, List.mem_replicate] at h; omega
  | i + 1, hi, v, h => by
    have ih := loadS_bd n sel l hv i (by omega)
    have hx := hv _ (List.getElem_mem (show i < l.length by omega))
    rw [loadS, getDg (show i < l.length by omega)] at h
    rcases mem_set_or h with h | rfl
    · have := ih v h; omega
    · rcases getD_mem0 (l := loadS n sel l i) (k := (sel l[i]).toNat) with h' | h'
      · omega
      · have := ih _ h'; omega
theorem loadS_succ {n : Nat} {sel : SeatR → Int} {l : List SeatR} {i k : Nat} (hi : i < l.length) (hk : sel l[i] = k) (hkn : k < (loadS n sel l i).length) : loadS n sel l (i + 1) = (loadS n sel l i).set k ((loadS n sel l i)[k] + l[i].vol) := by
  rw [loadS, getDg hi, hk, Int.toNat_natCast, getDg hkn]
def badLoad (p : PlanR) (k : Nat) : Bool := decide (p.first.getD k 0 ≠ (loadS p.caps.length (·.fst) p.seats p.seats.length).getD k 0) || decide (p.second.getD k 0 ≠ (loadS p.caps.length (·.snd) p.seats p.seats.length).getD k 0)
def badFull (p : PlanR) (k : Nat) : Bool := decide (p.caps.getD k 0 < max ((loadS p.caps.length (·.fst) p.seats p.seats.length).getD k 0) ((loadS p.caps.length (·.snd) p.seats p.seats.length).getD k 0))
def checkF (p : PlanR) : Int × Int :=
  if rightF p.caps = false then (0, 280) else if 1000 < p.seats.length then (0, 5) else if 0 ≤ wrongS (p.seats.map stopOf) then (wrongS (p.seats.map stopOf), 281)
  else if 0 ≤ fxI (badSeat p.caps.length p.seats) p.seats.length then (fxI (badSeat p.caps.length p.seats) p.seats.length, 282)
  else if p.first.length ≠ p.caps.length ∨ p.second.length ≠ p.caps.length then (0, 283)
  else if 0 ≤ fxI (badLoad p) p.caps.length then (fxI (badLoad p) p.caps.length, 283)
  else if 0 ≤ fxI (badFull p) p.caps.length then (fxI (badFull p) p.caps.length, 4) else (0, 0)
theorem wrongS_vol {l : List SeatR} (h : ¬ wrongS (l.map stopOf) ≥ 0) : ∀ x ∈ l, 1 ≤ x.vol ∧ x.vol ≤ 10000 := by
  intro x hx
  obtain ⟨i, hi, rfl⟩ := List.getElem_of_mem hx
  have hi2 : i < (l.map stopOf).length := by simpa using hi
  have := fxI_neg (p := badStop (l.map stopOf)) (n := (l.map stopOf).length) (show wrongS (l.map stopOf) < 0 by omega) i hi2
  have h2 : ((l.map stopOf)[i].vol < 1 ∨ 10000 < (l.map stopOf)[i].vol) → False := fun hb => by
    have h3 := (badStop_iff hi2).2 (.inr (.inr (.inr hb)))
    rw [this] at h3; cases h3
  have e : (l.map stopOf)[i].vol = l[i].vol := by simp [stopOf]
  rw [e] at h2
  by_cases a1 : l[i].vol < 1
  · exact (h2 (.inl a1)).elim
  · by_cases a2 : 10000 < l[i].vol
    · exact (h2 (.inr a2)).elim
    · omega
theorem pu_stop1 (l : List StopR) (y : StopR) : ∀ x ∈ l.map stopAV ++ [stopAV y], Pur x := by
  intro x hx
  rcases List.mem_append.1 hx with hx | hx
  · exact pu_stop _ x hx
  · simp at hx; subst hx; simp
theorem badSeat_no {n : Nat} {l : List SeatR} {i : Nat} (hi : i < l.length) (h1 : ¬ min l[i].fst l[i].snd < 0) (h2 : ¬ max l[i].fst l[i].snd ≥ (n : Int)) (h3 : i = 0 ∨ ∃ h : i - 1 < l.length, l[i - 1].snd < l[i].snd ∨ (l[i - 1].snd = l[i].snd ∧ l[i - 1].fst < l[i].fst)) : badSeat n l i = false := by
  rw [badSeat, getDg hi]
  rcases h3 with rfl | ⟨hb, h3⟩
  · simp only [Nat.lt_irrefl, decide_false, Bool.false_and, Bool.or_false, Bool.or_eq_false_iff, decide_eq_false_iff_not]
    exact ⟨h1, by omega⟩
  · rw [getDg hb]
    have a1 : decide (min l[i].fst l[i].snd < 0) = false := decide_eq_false h1
    have a2 : decide ((n : Int) ≤ max l[i].fst l[i].snd) = false := decide_eq_false (by omega)
    have a3 : decide (l[i].snd < l[i - 1].snd) = false := decide_eq_false (by omega)
    rw [a1, a2, a3]
    simp only [Bool.false_or, Bool.and_eq_false_iff, decide_eq_false_iff_not]
    right
    omega
theorem badSeat_yes1 {n : Nat} {l : List SeatR} {i : Nat} (hi : i < l.length) (h : min l[i].fst l[i].snd < 0 ∨ max l[i].fst l[i].snd ≥ (n : Int)) : badSeat n l i = true := by
  rw [badSeat, getDg hi]
  rcases h with h | h
  · simp [h]
  · have : decide ((n : Int) ≤ max l[i].fst l[i].snd) = true := decide_eq_true (by omega)
    rw [this]; simp
theorem badSeat_yes2 {n : Nat} {l : List SeatR} {i : Nat} (hi : i < l.length) (h0 : 0 < i) (hb : i - 1 < l.length) (h : l[i].snd < l[i - 1].snd ∨ (l[i].snd = l[i - 1].snd ∧ l[i].fst ≤ l[i - 1].fst)) : badSeat n l i = true := by
  rw [badSeat, getDg hi, getDg hb]
  have : (decide (l[i].snd < l[i - 1].snd) || (decide (l[i].snd = l[i - 1].snd) && decide (l[i].fst ≤ l[i - 1].fst))) = true := by
    simp only [Bool.or_eq_true, Bool.and_eq_true, decide_eq_true_eq]; exact h
  rw [this]; simp [h0]

noncomputable def r25_0 : Array Oper := opsAt Try.f25 [0]
theorem r25_0_ok : dstOk 203 r25_0.toList = true ∧ r25_0.toList.all (fun o => noDefer o.op) = true := by decide +kernel
noncomputable def r25_1 : Array Oper := opsAt Try.f25 [1, 0, 0]
theorem r25_1_ok : dstOk 203 r25_1.toList = true ∧ r25_1.toList.all (fun o => noDefer o.op) = true := by decide +kernel
noncomputable def r25_2 : Array Oper := opsAt Try.f25 [1, 0, 1, 0, 0]
theorem r25_2_ok : dstOk 203 r25_2.toList = true ∧ r25_2.toList.all (fun o => noDefer o.op) = true := by decide +kernel
noncomputable def r25_3 : Array Oper := opsAt Try.f25 [1, 1, 0, 0]
theorem r25_3_ok : dstOk 203 r25_3.toList = true ∧ r25_3.toList.all (fun o => noDefer o.op) = true := by decide +kernel
noncomputable def r25_4 : Array Oper := opsAt Try.f25 [1, 1, 0, 1, 0, 0]
theorem r25_4_ok : dstOk 203 r25_4.toList = true ∧ r25_4.toList.all (fun o => noDefer o.op) = true := by decide +kernel
noncomputable def r25_5 : Array Oper := opsAt Try.f25 [1, 1, 1, 0]
theorem r25_5_ok : dstOk 203 r25_5.toList = true ∧ r25_5.toList.all (fun o => noDefer o.op) = true := by decide +kernel
noncomputable def r25_6 : Array Oper := opsAt Try.f25 [1, 1, 1, 1, 0, 0]
theorem r25_6_ok : dstOk 203 r25_6.toList = true ∧ r25_6.toList.all (fun o => noDefer o.op) = true := by decide +kernel
noncomputable def r25_7 : Array Oper := opsAt Try.f25 [1, 1, 1, 1, 0, 1, 0, 0, 0]
theorem r25_7_ok : dstOk 203 r25_7.toList = true ∧ r25_7.toList.all (fun o => noDefer o.op) = true := by decide +kernel
noncomputable def r25_8 : Array Oper := opsAt Try.f25 [1, 1, 1, 1, 0, 1, 0, 0, 1, 1, 0, 0, 0]
theorem r25_8_ok : dstOk 203 r25_8.toList = true ∧ r25_8.toList.all (fun o => noDefer o.op) = true := by decide +kernel
noncomputable def r25_9 : Array Oper := opsAt Try.f25 [1, 1, 1, 1, 0, 1, 0, 0, 1, 1, 0, 0, 1]
theorem r25_9_ok : dstOk 203 r25_9.toList = true ∧ r25_9.toList.all (fun o => noDefer o.op) = true := by decide +kernel
noncomputable def r25_10 : Array Oper := opsAt Try.f25 [1, 1, 1, 1, 0, 1, 0, 0, 1, 1, 1]
theorem r25_10_ok : dstOk 203 r25_10.toList = true ∧ r25_10.toList.all (fun o => noDefer o.op) = true := by decide +kernel
noncomputable def b25_0 : Code := (.seq (.region 7 r25_7 false) (.seq (.cond (.tmp 27) .skip (.exit 0)) (.seq (.block 1 (.seq (.region 8 r25_8 false) (.region 9 r25_9 false))) (.region 10 r25_10 false))))
noncomputable def r25_11 : Array Oper := opsAt Try.f25 [1, 1, 1, 1, 1, 0, 0]
theorem r25_11_ok : dstOk 203 r25_11.toList = true ∧ r25_11.toList.all (fun o => noDefer o.op) = true := by decide +kernel
noncomputable def r25_12 : Array Oper := opsAt Try.f25 [1, 1, 1, 1, 1, 0, 1, 0]
theorem r25_12_ok : dstOk 203 r25_12.toList = true ∧ r25_12.toList.all (fun o => noDefer o.op) = true := by decide +kernel
noncomputable def r25_13 : Array Oper := opsAt Try.f25 [1, 1, 1, 1, 1, 0, 1, 1, 0, 0]
theorem r25_13_ok : dstOk 203 r25_13.toList = true ∧ r25_13.toList.all (fun o => noDefer o.op) = true := by decide +kernel
noncomputable def r25_14 : Array Oper := opsAt Try.f25 [1, 1, 1, 1, 1, 1, 0]
theorem r25_14_ok : dstOk 203 r25_14.toList = true ∧ r25_14.toList.all (fun o => noDefer o.op) = true := by decide +kernel
noncomputable def r25_15 : Array Oper := opsAt Try.f25 [1, 1, 1, 1, 1, 1, 1, 0, 0]
theorem r25_15_ok : dstOk 203 r25_15.toList = true ∧ r25_15.toList.all (fun o => noDefer o.op) = true := by decide +kernel
noncomputable def r25_16 : Array Oper := opsAt Try.f25 [1, 1, 1, 1, 1, 1, 1, 0, 1, 0, 0, 0]
theorem r25_16_ok : dstOk 203 r25_16.toList = true ∧ r25_16.toList.all (fun o => noDefer o.op) = true := by decide +kernel
noncomputable def r25_17 : Array Oper := opsAt Try.f25 [1, 1, 1, 1, 1, 1, 1, 0, 1, 0, 0, 1, 1, 0, 0, 0]
theorem r25_17_ok : dstOk 203 r25_17.toList = true ∧ r25_17.toList.all (fun o => noDefer o.op) = true := by decide +kernel
noncomputable def r25_18 : Array Oper := opsAt Try.f25 [1, 1, 1, 1, 1, 1, 1, 0, 1, 0, 0, 1, 1, 0, 0, 1, 0, 0]
theorem r25_18_ok : dstOk 203 r25_18.toList = true ∧ r25_18.toList.all (fun o => noDefer o.op) = true := by decide +kernel
noncomputable def r25_19 : Array Oper := opsAt Try.f25 [1, 1, 1, 1, 1, 1, 1, 0, 1, 0, 0, 1, 1, 0, 0, 1, 0, 1, 0, 0]
theorem r25_19_ok : dstOk 203 r25_19.toList = true ∧ r25_19.toList.all (fun o => noDefer o.op) = true := by decide +kernel
noncomputable def r25_20 : Array Oper := opsAt Try.f25 [1, 1, 1, 1, 1, 1, 1, 0, 1, 0, 0, 1, 1, 0, 0, 1, 1, 0, 0]
theorem r25_20_ok : dstOk 203 r25_20.toList = true ∧ r25_20.toList.all (fun o => noDefer o.op) = true := by decide +kernel
noncomputable def r25_21 : Array Oper := opsAt Try.f25 [1, 1, 1, 1, 1, 1, 1, 0, 1, 0, 0, 1, 1, 0, 0, 1, 1, 0, 1, 0, 0]
theorem r25_21_ok : dstOk 203 r25_21.toList = true ∧ r25_21.toList.all (fun o => noDefer o.op) = true := by decide +kernel
noncomputable def r25_22 : Array Oper := opsAt Try.f25 [1, 1, 1, 1, 1, 1, 1, 0, 1, 0, 0, 1, 1, 0, 0, 1, 1, 1, 0]
theorem r25_22_ok : dstOk 203 r25_22.toList = true ∧ r25_22.toList.all (fun o => noDefer o.op) = true := by decide +kernel
noncomputable def r25_23 : Array Oper := opsAt Try.f25 [1, 1, 1, 1, 1, 1, 1, 0, 1, 0, 0, 1, 1, 0, 0, 1, 1, 1, 1]
theorem r25_23_ok : dstOk 203 r25_23.toList = true ∧ r25_23.toList.all (fun o => noDefer o.op) = true := by decide +kernel
noncomputable def r25_24 : Array Oper := opsAt Try.f25 [1, 1, 1, 1, 1, 1, 1, 0, 1, 0, 0, 1, 1, 1]
theorem r25_24_ok : dstOk 203 r25_24.toList = true ∧ r25_24.toList.all (fun o => noDefer o.op) = true := by decide +kernel
noncomputable def b25_1 : Code := (.seq (.region 16 r25_16 false) (.seq (.cond (.tmp 56) .skip (.exit 2)) (.seq (.block 3 (.seq (.region 17 r25_17 false) (.seq (.seq (.region 18 r25_18 false) (.cond (.tmp 76) (.seq (.region 19 r25_19 false) .ret) .skip)) (.seq (.seq (.region 20 r25_20 true) (.cond (.tmp 115) (.seq (.region 21 r25_21 false) .ret) .skip)) (.seq (.region 22 r25_22 true) (.region 23 r25_23 true)))))) (.region 24 r25_24 false))))
noncomputable def r25_25 : Array Oper := opsAt Try.f25 [1, 1, 1, 1, 1, 1, 1, 1, 0, 0]
theorem r25_25_ok : dstOk 203 r25_25.toList = true ∧ r25_25.toList.all (fun o => noDefer o.op) = true := by decide +kernel
noncomputable def r25_26 : Array Oper := opsAt Try.f25 [1, 1, 1, 1, 1, 1, 1, 1, 0, 1, 0, 0]
theorem r25_26_ok : dstOk 203 r25_26.toList = true ∧ r25_26.toList.all (fun o => noDefer o.op) = true := by decide +kernel
noncomputable def r25_27 : Array Oper := opsAt Try.f25 [1, 1, 1, 1, 1, 1, 1, 1, 1, 0, 0]
theorem r25_27_ok : dstOk 203 r25_27.toList = true ∧ r25_27.toList.all (fun o => noDefer o.op) = true := by decide +kernel
noncomputable def r25_28 : Array Oper := opsAt Try.f25 [1, 1, 1, 1, 1, 1, 1, 1, 1, 0, 1, 0, 0, 0]
theorem r25_28_ok : dstOk 203 r25_28.toList = true ∧ r25_28.toList.all (fun o => noDefer o.op) = true := by decide +kernel
noncomputable def r25_29 : Array Oper := opsAt Try.f25 [1, 1, 1, 1, 1, 1, 1, 1, 1, 0, 1, 0, 0, 1, 1, 0, 0, 0]
theorem r25_29_ok : dstOk 203 r25_29.toList = true ∧ r25_29.toList.all (fun o => noDefer o.op) = true := by decide +kernel
noncomputable def r25_30 : Array Oper := opsAt Try.f25 [1, 1, 1, 1, 1, 1, 1, 1, 1, 0, 1, 0, 0, 1, 1, 0, 0, 1, 0]
theorem r25_30_ok : dstOk 203 r25_30.toList = true ∧ r25_30.toList.all (fun o => noDefer o.op) = true := by decide +kernel
noncomputable def r25_31 : Array Oper := opsAt Try.f25 [1, 1, 1, 1, 1, 1, 1, 1, 1, 0, 1, 0, 0, 1, 1, 0, 0, 1, 1, 0, 0]
theorem r25_31_ok : dstOk 203 r25_31.toList = true ∧ r25_31.toList.all (fun o => noDefer o.op) = true := by decide +kernel
noncomputable def r25_32 : Array Oper := opsAt Try.f25 [1, 1, 1, 1, 1, 1, 1, 1, 1, 0, 1, 0, 0, 1, 1, 1]
theorem r25_32_ok : dstOk 203 r25_32.toList = true ∧ r25_32.toList.all (fun o => noDefer o.op) = true := by decide +kernel
noncomputable def b25_2 : Code := (.seq (.region 28 r25_28 false) (.seq (.cond (.tmp 156) .skip (.exit 4)) (.seq (.block 5 (.seq (.region 29 r25_29 false) (.seq (.region 30 r25_30 true) (.cond (.tmp 179) (.seq (.region 31 r25_31 false) .ret) .skip)))) (.region 32 r25_32 false))))
noncomputable def r25_33 : Array Oper := opsAt Try.f25 [1, 1, 1, 1, 1, 1, 1, 1, 1, 1, 0, 0]
theorem r25_33_ok : dstOk 203 r25_33.toList = true ∧ r25_33.toList.all (fun o => noDefer o.op) = true := by decide +kernel
noncomputable def r25_34 : Array Oper := opsAt Try.f25 [1, 1, 1, 1, 1, 1, 1, 1, 1, 1, 0, 1, 0, 0, 0]
theorem r25_34_ok : dstOk 203 r25_34.toList = true ∧ r25_34.toList.all (fun o => noDefer o.op) = true := by decide +kernel
noncomputable def r25_35 : Array Oper := opsAt Try.f25 [1, 1, 1, 1, 1, 1, 1, 1, 1, 1, 0, 1, 0, 0, 1, 1, 0, 0, 0]
theorem r25_35_ok : dstOk 203 r25_35.toList = true ∧ r25_35.toList.all (fun o => noDefer o.op) = true := by decide +kernel
noncomputable def r25_36 : Array Oper := opsAt Try.f25 [1, 1, 1, 1, 1, 1, 1, 1, 1, 1, 0, 1, 0, 0, 1, 1, 0, 0, 1, 0]
theorem r25_36_ok : dstOk 203 r25_36.toList = true ∧ r25_36.toList.all (fun o => noDefer o.op) = true := by decide +kernel
noncomputable def r25_37 : Array Oper := opsAt Try.f25 [1, 1, 1, 1, 1, 1, 1, 1, 1, 1, 0, 1, 0, 0, 1, 1, 0, 0, 1, 1, 0, 0]
theorem r25_37_ok : dstOk 203 r25_37.toList = true ∧ r25_37.toList.all (fun o => noDefer o.op) = true := by decide +kernel
noncomputable def r25_38 : Array Oper := opsAt Try.f25 [1, 1, 1, 1, 1, 1, 1, 1, 1, 1, 0, 1, 0, 0, 1, 1, 1]
theorem r25_38_ok : dstOk 203 r25_38.toList = true ∧ r25_38.toList.all (fun o => noDefer o.op) = true := by decide +kernel
noncomputable def b25_3 : Code := (.seq (.region 34 r25_34 false) (.seq (.cond (.tmp 186) .skip (.exit 6)) (.seq (.block 7 (.seq (.region 35 r25_35 false) (.seq (.region 36 r25_36 true) (.cond (.tmp 200) (.seq (.region 37 r25_37 false) .ret) .skip)))) (.region 38 r25_38 false))))
noncomputable def r25_39 : Array Oper := opsAt Try.f25 [1, 1, 1, 1, 1, 1, 1, 1, 1, 1, 1, 0]
theorem r25_39_ok : dstOk 203 r25_39.toList = true ∧ r25_39.toList.all (fun o => noDefer o.op) = true := by decide +kernel
noncomputable def c25 : Code := (.seq (.region 0 r25_0 false) (.seq (.seq (.region 1 r25_1 false) (.cond (.tmp 18) (.seq (.region 2 r25_2 false) .ret) .skip)) (.seq (.seq (.region 3 r25_3 false) (.cond (.tmp 22) (.seq (.region 4 r25_4 false) .ret) .skip)) (.seq (.region 5 r25_5 false) (.seq (.seq (.region 6 r25_6 false) (.block 0 (.loop b25_0))) (.seq (.seq (.region 11 r25_11 false) (.seq (.region 12 r25_12 false) (.cond (.tmp 42) (.seq (.region 13 r25_13 false) .ret) .skip))) (.seq (.region 14 r25_14 true) (.seq (.seq (.region 15 r25_15 false) (.block 2 (.loop b25_1))) (.seq (.seq (.region 25 r25_25 false) (.cond (.tmp 151) (.seq (.region 26 r25_26 false) .ret) .skip)) (.seq (.seq (.region 27 r25_27 false) (.block 4 (.loop b25_2))) (.seq (.seq (.region 33 r25_33 false) (.block 6 (.loop b25_3))) (.seq (.region 39 r25_39 false) .ret))))))))))))
theorem body25 : Try.f25.body = some c25 := by kernel_rfl
theorem check_ok (b : B4) (p : PlanR) (g1 : p.caps.length ≤ 100000) (g2 : p.seats.length ≤ 100000) (g3 : p.first.length ≤ 100000) (g4 : p.second.length ≤ 100000) : PureCall Try.prog GL 25 [planAV b p] (.tup [.raw (.int .i64 ((checkF p).1)), .raw (.int .i64 ((checkF p).2))]) := by
  refine pure_of_body Try.func25 body25 (Nat.le_of_ble_eq_true rfl) (by simp) (by simp) ?_
  refine w_keep [(0, planAV b p)] ⟨rfl, trivial⟩ ?_
  unfold c25
  refine awp_seq ?_
  refine w_reg (l := r25_0.toList) rfl r25_0_ok ?_
  refine a_op rfl (o_box (N := 0) rfl (by rfl) rfl rfl) ?_
  refine a_op rfl (o_as rfl) ?_
  refine a_op rfl (o_as rfl) ?_
  refine a_nil ?_
  refine tq_n ?_
  refine awp_seq ?_
  refine awp_seq ?_
  refine w_reg (l := r25_1.toList) rfl r25_1_ok ?_
  refine a_op rfl ((by first | exact o_fa tf51_0 rfl rfl | exact o_fap tf51_0 rfl rfl)) ?_
  refine a_op rfl ((by first | exact o_ld tg34 rfl rfl | exact o_ldp tg34 rfl rfl rfl rfl)) ?_
  refine a_pureb rfl rfl rfl cb69 (machine2_ok _ _ (by omega)) (fun h1 => ?_) (fun h2 => ?_)
  · refine a_op rfl (o_ntt rfl) ?_
    refine a_nil ?_
    refine tq_n ?_
    refine w_false rfl ?_
    refine awp_skip ?_
    refine tq_n ?_
    refine awp_seq ?_
    refine awp_seq ?_
    refine w_reg (l := r25_3.toList) rfl r25_3_ok ?_
    refine a_op rfl ((by first | exact o_fa tf51_1 rfl rfl | exact o_fap tf51_1 rfl rfl)) ?_
    refine a_op rfl ((by first | exact o_ld tg49 rfl rfl | exact o_ldp tg49 rfl rfl rfl rfl)) ?_
    refine a_op rfl (o_len rfl rfl (by first | exact List.length_map .. | rfl) tl49) ?_
    refine a_if rfl (o_gt rfl rfl) (fun h3 => ?_) (fun h4 => ?_)
    · refine a_nil ?_
      refine tq_n ?_
      refine w_true rfl ?_
      refine awp_seq ?_
      refine w_reg (l := r25_4.toList) rfl r25_4_ok ?_
      refine a_op rfl (o_as rfl) ?_
      refine a_op rfl (o_as rfl) ?_
      refine a_nil ?_
      refine tq_n ?_
      refine awp_ret ?_
      refine tq_r ?_
      refine r_tup (xs := []) rfl ⟨rfl, rfl, trivial⟩ ?_
      have hr : checkF p = (0, 5) := by rw [checkF, if_neg (by simp [*]), if_pos (by omega)]
      exact rs_tup ⟨rs_int (by rw [hr]), rs_int (by rw [hr]), trivial⟩
    refine a_nil ?_
    refine tq_n ?_
    refine w_false rfl ?_
    refine awp_skip ?_
    refine tq_n ?_
    refine awp_seq ?_
    refine w_reg (l := r25_5.toList) rfl r25_5_ok ?_
    refine a_op rfl (o_as rfl) ?_
    refine a_nil ?_
    refine tq_n ?_
    refine awp_seq ?_
    refine awp_seq ?_
    refine w_own (q := 4) (z := 2) (N := 1) (by decide) rfl rfl rfl ?_
    refine w_reg (l := r25_6.toList) rfl r25_6_ok ?_
    refine a_op rfl ((by first | exact o_fa tf51_1 rfl rfl | exact o_fap tf51_1 rfl rfl)) ?_
    refine a_op rfl ((by first | exact o_ld tg49 rfl rfl | exact o_ldp tg49 rfl rfl rfl rfl)) ?_
    refine a_op rfl (o_len rfl rfl (by first | exact List.length_map .. | rfl) tl49) ?_
    refine a_op rfl (o_mv rfl) ?_
    refine a_nil ?_
    refine tq_n ?_
    refine awp_block ?_
    refine w_loop (fun i : Nat => i ≤ p.seats.length) (fun i => [(1, .ptr 0 0), (4, .slo 1 i 0 i), (24, .sl 4 b.b1 (p.seats.map seatAV)), (25, .raw (.int .i64 ((p.seats.length : Nat) : Int))), (26, .raw (.int .i64 ((i : Nat) : Int)))]) (fun i => [.var (planC b p), .vec 2 i (((p.seats.take i).map stopOf).map stopAV)]) (fun i => p.seats.length - i) (0) (by simp) ⟨(by first | exact sub_int rfl (by omega) | rfl), (by first | exact sub_int rfl (by omega) | rfl), (by first | exact sub_int rfl (by omega) | rfl), (by first | exact sub_int rfl (by omega) | rfl), (by first | exact sub_int rfl (by omega) | rfl), trivial⟩ rfl ?_
    intro i hp
    unfold b25_0
    refine awp_seq ?_
    refine w_reg (l := r25_7.toList) rfl r25_7_ok ?_
    refine a_if rfl (o_lt rfl rfl) (fun h5 => ?_) (fun h6 => ?_)
    · refine a_nil ?_
      refine tq_n ?_
      refine awp_seq ?_
      refine w_true rfl ?_
      refine awp_skip ?_
      refine tq_n ?_
      refine awp_seq ?_
      refine awp_block ?_
      refine awp_seq ?_
      have hi : i < p.seats.length := by omega
      refine w_reg (l := r25_8.toList) rfl r25_8_ok ?_
      refine a_op rfl (o_ix te49 tn89 rfl rfl rfl (ixm _ _ _ hi)) ?_
      refine a_op rfl ((by first | exact o_ldg tg89 tn89 rfl rfl | exact o_ldpg tg89 tn89 rfl rfl rfl rfl)) ?_
      refine a_op rfl (o_al (N := 2) tz89 rfl rfl rfl) ?_
      refine a_op0 rfl (o_st (N := 3) tn89 rfl rfl rfl rfl rfl) ?_
      refine a_nil ?_
      refine tq_n ?_
      skip
      refine w_reg (l := r25_9.toList) rfl r25_9_ok ?_
      refine a_op rfl (o_mv rfl) ?_
      refine a_op rfl ((by first | exact o_fa tf89_0 rfl rfl | exact o_fap tf89_0 rfl rfl)) ?_
      refine a_op rfl ((by first | exact o_ld tg3 rfl rfl | exact o_ldp tg3 rfl rfl rfl rfl)) ?_
      refine a_op rfl ((by first | exact o_fa tf89_1 rfl rfl | exact o_fap tf89_1 rfl rfl)) ?_
      refine a_op rfl ((by first | exact o_ld tg3 rfl rfl | exact o_ldp tg3 rfl rfl rfl rfl)) ?_
      refine a_op rfl (o_bd tz48 rfl tp48 rfl rfl) ?_
      refine a_op rfl (o_bs tE46 (by decide) rfl rfl rfl) ?_
      refine a_op rfl (o_ap tE46 rfl rfl (by simp; omega) rfl rfl rfl (by simp; omega) (by simp; omega) rfl rfl rfl rfl) ?_
      refine a_op rfl (o_as rfl) ?_
      refine a_nil ?_
      refine bq_n ?_
      refine tq_n ?_
      refine w_view [(1, .ptr 0 0), (4, .slo 1 (i + 1) 0 (i + 1)), (24, .sl 4 b.b1 (p.seats.map seatAV)), (25, .raw (.int .i64 ((p.seats.length : Nat) : Int))), (26, .raw (.int .i64 ((i : Nat) : Int)))] [.var (planC b p), .vec 2 (i + 1) (((p.seats.take i).map stopOf).map stopAV ++ [stopAV (stopOf p.seats[i])])] 2 rfl (Nat.le_of_ble_eq_true rfl) (Nat.le_of_ble_eq_true rfl) ⟨⟨_, rfl, (by first | exact .mpK (Nat.le_of_ble_eq_true rfl) | exact .sloK (Nat.le_of_ble_eq_true rfl) | exact .ptrK (Nat.le_of_ble_eq_true rfl) | exact rs_pur (by simp) rfl)⟩, ⟨_, rfl, (by first | exact .mpK (Nat.le_of_ble_eq_true rfl) | exact .sloK (Nat.le_of_ble_eq_true rfl) | exact .ptrK (Nat.le_of_ble_eq_true rfl) | exact rs_pur (by simp) rfl)⟩, ⟨_, rfl, (by first | exact .mpK (Nat.le_of_ble_eq_true rfl) | exact .sloK (Nat.le_of_ble_eq_true rfl) | exact .ptrK (Nat.le_of_ble_eq_true rfl) | exact rs_pur (by simp) rfl)⟩, ⟨_, rfl, (by first | exact .mpK (Nat.le_of_ble_eq_true rfl) | exact .sloK (Nat.le_of_ble_eq_true rfl) | exact .ptrK (Nat.le_of_ble_eq_true rfl) | exact rs_pur (by simp) rfl)⟩, ⟨_, rfl, (by first | exact .mpK (Nat.le_of_ble_eq_true rfl) | exact .sloK (Nat.le_of_ble_eq_true rfl) | exact .ptrK (Nat.le_of_ble_eq_true rfl) | exact rs_pur (by simp) rfl)⟩, trivial⟩ ⟨ors_var ⟨rs_pur (by simp) rfl, rs_pur (by simp) rfl, rs_pur (by simp) rfl, rs_pur (by simp) rfl, trivial⟩, ors_vec (pu_stop1 _ (stopOf p.seats[i])), trivial⟩ ?_
      refine w_reg (l := r25_10.toList) rfl r25_10_ok ?_
      refine a_op rfl (o_add rfl rfl (by simp only [klo, khi]; omega)) ?_
      refine a_op rfl (o_mv rfl) ?_
      refine a_nil ?_
      refine tq_n ?_
      exact ⟨i + 1, ⟨by omega, by omega⟩, ⟨(by first | exact sub_int rfl (by omega) | rfl), (by first | exact sub_int rfl (by omega) | rfl), (by first | exact sub_int rfl (by omega) | rfl), (by first | exact sub_int rfl (by omega) | rfl), (by first | exact sub_int rfl (by omega) | rfl), trivial⟩, by rw [List.take_succ_eq_append_getElem hi, List.map_append, List.map_append]; rfl⟩
    refine a_nil ?_
    refine tq_n ?_
    refine awp_seq ?_
    refine w_false rfl ?_
    refine awp_exit ?_
    refine tq_x ?_
    refine tq_x ?_
    refine bq_hit ?_
    refine tq_n ?_
    refine awp_seq ?_
    refine awp_seq ?_
    refine w_reg (l := r25_11.toList) rfl r25_11_ok ?_
    refine a_op rfl (o_mv rfl) ?_
    refine a_lend (vs' := [.sl 2 false ((p.seats.map stopOf).map stopAV)]) rfl rfl rfl cb70 (wrongS_ok _ _ (by simp; omega)) ⟨rs_slo id rfl (by simp; omega) (pu_stop _) (by rw [show i = p.seats.length by omega, List.take_length]), trivial⟩ (by simp) ?_
    refine a_op rfl (o_as rfl) ?_
    refine a_nil ?_
    refine tq_n ?_
    refine awp_seq ?_
    refine w_reg (l := r25_12.toList) rfl r25_12_ok ?_
    refine a_op rfl (o_mv rfl) ?_
    refine a_if rfl (o_ge rfl rfl) (fun h7 => ?_) (fun h8 => ?_)
    · refine a_nil ?_
      refine tq_n ?_
      refine w_true rfl ?_
      refine awp_seq ?_
      refine w_reg (l := r25_13.toList) rfl r25_13_ok ?_
      refine a_op rfl (o_mv rfl) ?_
      refine a_op rfl (o_as rfl) ?_
      refine a_op rfl (o_as rfl) ?_
      refine a_nil ?_
      refine tq_n ?_
      refine awp_ret ?_
      refine tq_r ?_
      refine r_tup (xs := []) rfl ⟨rfl, rfl, trivial⟩ ?_
      have hr : checkF p = (wrongS (p.seats.map stopOf), 281) := by rw [checkF, if_neg (by simp [*]), if_neg (by omega), if_pos (by omega)]
      exact rs_tup ⟨rs_int (by rw [hr]), rs_int (by rw [hr]), trivial⟩
    refine a_nil ?_
    refine tq_n ?_
    refine w_false rfl ?_
    refine awp_skip ?_
    refine tq_n ?_
    refine awp_seq ?_
    refine w_view [(1, .ptr 0 0)] [.var (planC b p)] 1 rfl (Nat.le_of_ble_eq_true rfl) (Nat.le_of_ble_eq_true rfl) ⟨⟨_, rfl, (by first | exact .mpK (Nat.le_of_ble_eq_true rfl) | exact .sloK (Nat.le_of_ble_eq_true rfl) | exact .ptrK (Nat.le_of_ble_eq_true rfl) | exact rs_pur (by simp) rfl)⟩, trivial⟩ ⟨ors_var ⟨rs_pur (by simp) rfl, rs_pur (by simp) rfl, rs_pur (by simp) rfl, rs_pur (by simp) rfl, trivial⟩, trivial⟩ ?_
    have h0 : (0 : Int) ≤ (p.caps.length : Nat) := by omega
    have hb8 : ((8 : Nat) : Int) * (p.caps.length : Nat) ≤ 281474976710656 := by omega
    have h63 : ((p.caps.length : Nat) : Int) ≤ 9223372036854775807 := by omega
    have hvol := wrongS_vol (by assumption)
    have hvol0 : ∀ x ∈ p.seats, 0 ≤ x.vol ∧ x.vol ≤ 10000 := fun x hx => by have := hvol x hx; omega
    refine w_ph 1 (by decide) rfl ?_
    refine w_ph 1 (by decide) rfl ?_
    
    refine awp_draw ⟨[[], [0], [0, 1], [0, 1, 2], [], [4], [4, 5], [4, 5, 6], [0, 1, 2, 3], [0, 1, 2, 3, 4, 5, 6, 7, 8]], [[1], [44], [45], [46], [1], [48], [49], [50], [47], [51]], [[], [0], [], [1], [], [0], [], [2], [], []], [none, none, none, some 1, none, none, none, some 2, none, none]⟩ mo r25_14_ok (by decide +kernel) (l := r25_14.toList) rfl ?_
    refine d_op rfl rfl rfl (fun _ => (by first | exact o_fa tf51_0 rfl rfl | exact o_fap tf51_0 rfl rfl)) ?_
    refine d_op rfl rfl rfl (fun _ => (by first | exact o_ld tg34 rfl rfl | exact o_ldp tg34 rfl rfl rfl rfl)) ?_
    refine d_op rfl rfl rfl (fun _ => o_len rfl rfl (by first | exact List.length_map .. | rfl) tl34) ?_
    refine d_w rfl rfl rfl (fun _ => o_msD tE34 rfl rfl h0 (Int.le_refl _) hb8 h63 rfl) rfl rfl rfl ?_
    refine d_op rfl rfl rfl (fun _ => (by first | exact o_fa tf51_0 rfl rfl | exact o_fap tf51_0 rfl rfl)) ?_
    refine d_op rfl rfl rfl (fun _ => (by first | exact o_ld tg34 rfl rfl | exact o_ldp tg34 rfl rfl rfl rfl)) ?_
    refine d_op rfl rfl rfl (fun _ => o_len rfl rfl (by first | exact List.length_map .. | rfl) tl34) ?_
    refine d_w rfl rfl rfl (fun _ => o_msD tE34 rfl rfl h0 (Int.le_refl _) hb8 h63 rfl) rfl rfl rfl ?_
    refine d_op rfl rfl rfl (fun _ => o_as rfl) ?_
    refine d_op rfl rfl rfl (fun _ => o_as rfl) ?_
    refine d_nil ?_
    refine tq_n ?_
    refine awp_seq ?_
    refine awp_seq ?_
    refine w_heq (H1 := [.var (planC b p), .vec 1 1 ((loadS p.caps.length (·.fst) p.seats 0).map intAV), .vec 1 1 ((loadS p.caps.length (·.snd) p.seats 0).map intAV)]) (by simp [loadS, intAV]) ?_
    refine w_reg (l := r25_15.toList) rfl r25_15_ok ?_
    refine a_op rfl ((by first | exact o_fa tf51_1 rfl rfl | exact o_fap tf51_1 rfl rfl)) ?_
    refine a_op rfl ((by first | exact o_ld tg49 rfl rfl | exact o_ldp tg49 rfl rfl rfl rfl)) ?_
    refine a_op rfl (o_len rfl rfl (by first | exact List.length_map .. | rfl) tl49) ?_
    refine a_op rfl (o_mv rfl) ?_
    refine a_nil ?_
    refine tq_n ?_
    refine awp_block ?_
    refine w_loop (fun i : Nat => i ≤ p.seats.length ∧ ∀ j, j < i → badSeat p.caps.length p.seats j = false) (fun i => [(1, .ptr 0 0), (8, .slo 1 1 0 p.caps.length), (9, .slo 2 1 0 p.caps.length), (53, .sl 4 b.b1 (p.seats.map seatAV)), (54, .raw (.int .i64 ((p.seats.length : Nat) : Int))), (55, .raw (.int .i64 ((i : Nat) : Int)))]) (fun i => [.var (planC b p), .vec 1 1 ((loadS p.caps.length (·.fst) p.seats i).map intAV), .vec 1 1 ((loadS p.caps.length (·.snd) p.seats i).map intAV)]) (fun i => p.seats.length - i) (0) ⟨by simp, by simp⟩ ⟨(by first | exact sub_int rfl (by omega) | rfl), (by first | exact sub_int rfl (by omega) | rfl), (by first | exact sub_int rfl (by omega) | rfl), (by first | exact sub_int rfl (by omega) | rfl), (by first | exact sub_int rfl (by omega) | rfl), (by first | exact sub_int rfl (by omega) | rfl), trivial⟩ rfl ?_
    intro i ⟨hp, hq⟩
    unfold b25_1
    refine awp_seq ?_
    refine w_reg (l := r25_16.toList) rfl r25_16_ok ?_
    refine a_if rfl (o_lt rfl rfl) (fun h9 => ?_) (fun h10 => ?_)
    · refine a_nil ?_
      refine tq_n ?_
      refine awp_seq ?_
      refine w_true rfl ?_
      refine awp_skip ?_
      refine tq_n ?_
      refine awp_seq ?_
      refine awp_block ?_
      refine awp_seq ?_
      have hi : i < p.seats.length := by omega
      refine w_reg (l := r25_17.toList) rfl r25_17_ok ?_
      refine a_op rfl (o_mv rfl) ?_
      refine a_op rfl (o_ix te49 tn89 rfl rfl rfl (ixm _ _ _ hi)) ?_
      refine a_op rfl ((by first | exact o_ldg tg89 tn89 rfl rfl | exact o_ldpg tg89 tn89 rfl rfl rfl rfl)) ?_
      refine a_op rfl (o_al (N := 3) tz89 rfl rfl rfl) ?_
      refine a_op rfl (o_as rfl) ?_
      refine a_op0 rfl (o_st (N := 3) tn89 rfl rfl rfl rfl rfl) ?_
      refine a_nil ?_
      refine tq_n ?_
      refine awp_seq ?_
      refine awp_seq ?_
      refine w_reg (l := r25_18.toList) rfl r25_18_ok ?_
      refine a_op rfl ((by first | exact o_fa tf89_2 rfl rfl | exact o_fap tf89_2 rfl rfl)) ?_
      refine a_op rfl ((by first | exact o_ld tg3 rfl rfl | exact o_ldp tg3 rfl rfl rfl rfl)) ?_
      refine a_op rfl ((by first | exact o_fa tf89_3 rfl rfl | exact o_fap tf89_3 rfl rfl)) ?_
      refine a_op rfl ((by first | exact o_ld tg3 rfl rfl | exact o_ldp tg3 rfl rfl rfl rfl)) ?_
      refine a_op rfl (o_min rfl rfl) ?_
      refine a_if rfl (o_lt rfl rfl) (fun h11 => ?_) (fun h12 => ?_)
      · refine a_op rfl (o_mv rfl) ?_
        refine a_off rfl ?_
        refine a_off rfl ?_
        refine a_off rfl ?_
        refine a_off rfl ?_
        refine a_off rfl ?_
        refine a_off rfl ?_
        refine a_off rfl ?_
        refine a_off rfl ?_
        refine a_off rfl ?_
        refine a_op rfl (o_pkt rfl rfl) ?_
        refine a_nil ?_
        refine tq_n ?_
        refine w_true rfl ?_
        refine awp_seq ?_
        refine w_reg (l := r25_19.toList) rfl r25_19_ok ?_
        refine a_op rfl (o_mv rfl) ?_
        refine a_op rfl (o_as rfl) ?_
        refine a_op rfl (o_as rfl) ?_
        refine a_nil ?_
        refine tq_n ?_
        refine awp_ret ?_
        refine tq_r ?_
        refine bq_r ?_
        refine tq_r ?_
        refine tq_r ?_
        refine bq_r ?_
        refine tq_r ?_
        refine r_tup (xs := []) rfl ⟨rfl, rfl, trivial⟩ ?_
        have hx := fxI_hit hi hq (badSeat_yes1 hi (by first | exact .inl (by assumption) | exact .inr (by assumption)))
        have hr : checkF p = (((i : Nat) : Int), 282) := by rw [checkF, if_neg (by simp [*]), if_neg (by omega), if_neg (by omega), hx, if_pos (by omega)]
        exact rs_tup ⟨rs_int (by rw [hr]), rs_int (by rw [hr]), trivial⟩
      refine a_op rfl (o_mv rfl) ?_
      refine a_op rfl ((by first | exact o_fa tf89_2 rfl rfl | exact o_fap tf89_2 rfl rfl)) ?_
      refine a_op rfl ((by first | exact o_ld tg3 rfl rfl | exact o_ldp tg3 rfl rfl rfl rfl)) ?_
      refine a_op rfl ((by first | exact o_fa tf89_3 rfl rfl | exact o_fap tf89_3 rfl rfl)) ?_
      refine a_op rfl ((by first | exact o_ld tg3 rfl rfl | exact o_ldp tg3 rfl rfl rfl rfl)) ?_
      refine a_op rfl (o_max rfl rfl) ?_
      refine a_op rfl ((by first | exact o_fa tf51_0 rfl rfl | exact o_fap tf51_0 rfl rfl)) ?_
      refine a_op rfl ((by first | exact o_ld tg34 rfl rfl | exact o_ldp tg34 rfl rfl rfl rfl)) ?_
      refine a_op rfl (o_len rfl rfl (by first | exact List.length_map .. | rfl) tl34) ?_
      refine a_if rfl (o_ge rfl rfl) (fun h13 => ?_) (fun h14 => ?_)
      · refine a_op rfl (o_pkf rfl rfl) ?_
        refine a_nil ?_
        refine tq_n ?_
        refine w_true rfl ?_
        refine awp_seq ?_
        refine w_reg (l := r25_19.toList) rfl r25_19_ok ?_
        refine a_op rfl (o_mv rfl) ?_
        refine a_op rfl (o_as rfl) ?_
        refine a_op rfl (o_as rfl) ?_
        refine a_nil ?_
        refine tq_n ?_
        refine awp_ret ?_
        refine tq_r ?_
        refine bq_r ?_
        refine tq_r ?_
        refine tq_r ?_
        refine bq_r ?_
        refine tq_r ?_
        refine r_tup (xs := []) rfl ⟨rfl, rfl, trivial⟩ ?_
        have hx := fxI_hit hi hq (badSeat_yes1 hi (by first | exact .inl (by assumption) | exact .inr (by assumption)))
        have hr : checkF p = (((i : Nat) : Int), 282) := by rw [checkF, if_neg (by simp [*]), if_neg (by omega), if_neg (by omega), hx, if_pos (by omega)]
        exact rs_tup ⟨rs_int (by rw [hr]), rs_int (by rw [hr]), trivial⟩
      refine a_op rfl (o_pkf rfl rfl) ?_
      refine a_nil ?_
      refine tq_n ?_
      refine w_false rfl ?_
      refine awp_skip ?_
      refine tq_n ?_
      refine awp_seq ?_
      refine awp_seq ?_
      refine awp_draw ⟨[[], [0], [0, 1], [0, 1, 2], [0, 1, 2, 3], [0, 1, 2], [0, 1, 2, 5], [0, 1, 2], [0, 1, 2, 7], [0, 1, 2, 5, 6, 7, 8], [0, 1, 2, 5, 6, 7, 8, 9], [0, 1, 2, 5, 6, 7, 8, 9, 10], [0, 1, 2, 3, 4, 5, 6, 7, 8, 9, 10, 11], [0, 1, 2, 3, 4, 5, 6, 7, 8, 9, 10, 11, 12], [0, 1, 2, 3, 4, 5, 6, 7, 8, 9, 10, 11, 12, 13], [0, 1, 2, 3, 4, 5, 6, 7, 8, 9, 10, 11, 12, 13, 14], [0, 1, 2, 3, 4, 5, 6, 7, 8, 9, 10, 11, 12, 13], [0, 1, 2, 3, 4, 5, 6, 7, 8, 9, 10, 11, 12, 13, 16], [0, 1, 2, 3, 4, 5, 6, 7, 8, 9, 10, 11, 12, 13], [0, 1, 2, 3, 4, 5, 6, 7, 8, 9, 10, 11, 12, 13, 18], [0, 1, 2, 3, 4, 5, 6, 7, 8, 9, 10, 11, 12, 13, 16, 17, 18, 19], [0, 1, 2, 3, 4, 5, 6, 7, 8, 9, 10, 11, 12, 13, 16, 17, 18, 19, 20], [0, 1, 2, 3, 4, 5, 6, 7, 8, 9, 10, 11, 12, 13, 16, 17, 18, 19, 20, 21], [0, 1, 2, 3, 4, 5, 6, 7, 8, 9, 10, 11, 12, 13, 14, 15, 16, 17, 18, 19, 20, 21, 22], [0, 1, 2, 3, 4, 5, 6, 7, 8, 9, 10, 11, 12, 13, 14, 15, 16, 17, 18, 19, 20, 21, 22, 23], [0, 1, 2, 3, 4, 5, 6, 7, 8, 9, 10, 11, 12, 13, 14, 15, 16, 17, 18, 19, 20, 21, 22, 23, 24], [0, 1, 2, 3, 4, 5, 6, 7, 8, 9, 10, 11, 12, 13, 14, 15, 16, 17, 18, 19, 20, 21, 22, 23, 24, 25], [0, 1, 2, 3, 4, 5, 6, 7, 8, 9, 10, 11, 12, 13, 14, 15, 16, 17, 18, 19, 20, 21, 22, 23, 24], [0, 1, 2, 3, 4, 5, 6, 7, 8, 9, 10, 11, 12, 13, 14, 15, 16, 17, 18, 19, 20, 21, 22, 23, 24, 27], [0, 1, 2, 3, 4, 5, 6, 7, 8, 9, 10, 11, 12, 13, 14, 15, 16, 17, 18, 19, 20, 21, 22, 23, 24], [0, 1, 2, 3, 4, 5, 6, 7, 8, 9, 10, 11, 12, 13, 14, 15, 16, 17, 18, 19, 20, 21, 22, 23, 24, 29], [0, 1, 2, 3, 4, 5, 6, 7, 8, 9, 10, 11, 12, 13, 14, 15, 16, 17, 18, 19, 20, 21, 22, 23, 24, 27, 28, 29, 30], [0, 1, 2, 3, 4, 5, 6, 7, 8, 9, 10, 11, 12, 13, 14, 15, 16, 17, 18, 19, 20, 21, 22, 23, 24, 27, 28, 29, 30, 31], [0, 1, 2, 3, 4, 5, 6, 7, 8, 9, 10, 11, 12, 13, 14, 15, 16, 17, 18, 19, 20, 21, 22, 23, 24, 27, 28, 29, 30, 31, 32], [0, 1, 2, 3, 4, 5, 6, 7, 8, 9, 10, 11, 12, 13, 14, 15, 16, 17, 18, 19, 20, 21, 22, 23, 24, 25, 26, 27, 28, 29, 30, 31, 32, 33], [0, 1, 2, 3, 4, 5, 6, 7, 8, 9, 10, 11, 12, 13, 14, 15, 16, 17, 18, 19, 20, 21, 22, 23, 24, 25, 26, 27, 28, 29, 30, 31, 32, 33, 34], [0, 1, 2, 3, 4, 5, 6, 7, 8, 9, 10, 11, 12, 13, 14, 15, 16, 17, 18, 19, 20, 21, 22, 23, 24, 25, 26, 27, 28, 29, 30, 31, 32, 33, 34, 35], [0, 1, 2, 3, 4, 5, 6, 7, 8, 9, 10, 11, 12, 13, 14, 15, 16, 17, 18, 19, 20, 21, 22, 23, 24, 25, 26, 27, 28, 29, 30, 31, 32, 33, 34, 35, 36]], [[10], [78], [79], [11, 80], [80, 81], [1, 80], [80, 83], [10, 80], [80, 85], [80, 84, 86], [80, 87], [80, 88], [80, 82, 89], [80, 90], [11, 91], [91, 92], [1, 91], [91, 94], [10, 91], [91, 96], [91, 95, 97], [91, 98], [91, 99], [91, 93, 100], [91, 101], [11, 102], [102, 103], [1, 102], [102, 105], [10, 102], [102, 107], [102, 106, 108], [102, 109], [102, 110], [102, 104, 111], [91, 102, 112], [80, 91, 113], [80, 114]], [[], [], [], [], [3], [], [0], [], [], [], [], [], [], [], [], [3], [], [0], [], [], [], [], [], [], [], [], [3], [], [0], [], [], [], [], [], [], [], [], []], [none, none, none, none, none, none, none, none, none, none, none, none, none, none, none, none, none, none, none, none, none, none, none, none, none, none, none, none, none, none, none, none, none, none, none, none, none, none]⟩ mo r25_20_ok (by decide +kernel) (l := r25_20.toList) rfl ?_
      refine d_op rfl rfl rfl (fun _ => o_mv rfl) ?_
      refine d_if rfl rfl rfl (fun _ => o_gt rfl rfl) (fun h15 => ?_) (fun h16 => ?_)
      · have hb2 : i - 1 < p.seats.length := by omega
        refine d_op rfl rfl rfl (fun _ => o_mv rfl) ?_
        refine d_op rfl rfl rfl (fun _ => (by first | exact o_fa tf89_3 rfl rfl | exact o_fap tf89_3 rfl rfl)) ?_
        refine d_op rfl rfl rfl (fun _ => (by first | exact o_ld tg3 rfl rfl | exact o_ldp tg3 rfl rfl rfl rfl)) ?_
        refine d_op rfl rfl rfl (fun _ => (by first | exact o_fa tf51_1 rfl rfl | exact o_fap tf51_1 rfl rfl)) ?_
        refine d_op rfl rfl rfl (fun _ => (by first | exact o_ld tg49 rfl rfl | exact o_ldp tg49 rfl rfl rfl rfl)) ?_
        refine d_op rfl rfl rfl (fun _ => o_mv rfl) ?_
        refine d_op rfl rfl rfl (fun _ => o_sub rfl rfl (by simp only [klo, khi]; omega)) ?_
        refine d_op rfl rfl rfl (fun _ => o_ix te49 tn89 rfl rfl (j := i - 1) (by omega) (ixm _ _ _ hb2)) ?_
        refine d_op rfl rfl rfl (fun _ => (by first | exact o_fa tf89_3 rfl rfl | exact o_fap tf89_3 rfl rfl)) ?_
        refine d_op rfl rfl rfl (fun _ => (by first | exact o_ld tg3 rfl rfl | exact o_ldp tg3 rfl rfl rfl rfl)) ?_
        refine d_if rfl rfl rfl (fun _ => o_lt rfl rfl) (fun h17 => ?_) (fun h18 => ?_)
        · refine d_op rfl rfl rfl (fun _ => o_mv rfl) ?_
          refine d_off rfl rfl ?_
          refine d_off rfl rfl ?_
          refine d_off rfl rfl ?_
          refine d_off rfl rfl ?_
          refine d_off rfl rfl ?_
          refine d_off rfl rfl ?_
          refine d_off rfl rfl ?_
          refine d_off rfl rfl ?_
          refine d_off rfl rfl ?_
          refine d_off rfl rfl ?_
          refine d_off rfl rfl ?_
          refine d_off rfl rfl ?_
          refine d_off rfl rfl ?_
          refine d_off rfl rfl ?_
          refine d_off rfl rfl ?_
          refine d_off rfl rfl ?_
          refine d_off rfl rfl ?_
          refine d_off rfl rfl ?_
          refine d_off rfl rfl ?_
          refine d_off rfl rfl ?_
          refine d_off rfl rfl ?_
          refine d_off rfl rfl ?_
          refine d_op rfl rfl rfl (fun _ => o_pkt rfl rfl) ?_
          refine d_op rfl rfl rfl (fun _ => o_pkt rfl rfl) ?_
          refine d_nil ?_
          refine tq_n ?_
          refine w_true rfl ?_
          refine awp_seq ?_
          refine w_reg (l := r25_21.toList) rfl r25_21_ok ?_
          refine a_op rfl (o_mv rfl) ?_
          refine a_op rfl (o_as rfl) ?_
          refine a_op rfl (o_as rfl) ?_
          refine a_nil ?_
          refine tq_n ?_
          refine awp_ret ?_
          refine tq_r ?_
          refine bq_r ?_
          refine tq_r ?_
          refine tq_r ?_
          refine bq_r ?_
          refine tq_r ?_
          refine r_tup (xs := []) rfl ⟨rfl, rfl, trivial⟩ ?_
          have hx := fxI_hit hi hq (badSeat_yes2 hi (by omega) hb2 (by omega))
          have hr : checkF p = (((i : Nat) : Int), 282) := by rw [checkF, if_neg (by simp [*]), if_neg (by omega), if_neg (by omega), hx, if_pos (by omega)]
          exact rs_tup ⟨rs_int (by rw [hr]), rs_int (by rw [hr]), trivial⟩
        refine d_op rfl rfl rfl (fun _ => o_mv rfl) ?_
        refine d_op rfl rfl rfl (fun _ => (by first | exact o_fa tf89_3 rfl rfl | exact o_fap tf89_3 rfl rfl)) ?_
        refine d_op rfl rfl rfl (fun _ => (by first | exact o_ld tg3 rfl rfl | exact o_ldp tg3 rfl rfl rfl rfl)) ?_
        refine d_op rfl rfl rfl (fun _ => (by first | exact o_fa tf51_1 rfl rfl | exact o_fap tf51_1 rfl rfl)) ?_
        refine d_op rfl rfl rfl (fun _ => (by first | exact o_ld tg49 rfl rfl | exact o_ldp tg49 rfl rfl rfl rfl)) ?_
        refine d_op rfl rfl rfl (fun _ => o_mv rfl) ?_
        refine d_op rfl rfl rfl (fun _ => o_sub rfl rfl (by simp only [klo, khi]; omega)) ?_
        refine d_op rfl rfl rfl (fun _ => o_ix te49 tn89 rfl rfl (j := i - 1) (by omega) (ixm _ _ _ hb2)) ?_
        refine d_op rfl rfl rfl (fun _ => (by first | exact o_fa tf89_3 rfl rfl | exact o_fap tf89_3 rfl rfl)) ?_
        refine d_op rfl rfl rfl (fun _ => (by first | exact o_ld tg3 rfl rfl | exact o_ldp tg3 rfl rfl rfl rfl)) ?_
        refine d_if rfl rfl rfl (fun _ => o_eq rfl rfl) (fun h19 => ?_) (fun h20 => ?_)
        · refine d_op rfl rfl rfl (fun _ => o_mv rfl) ?_
          refine d_op rfl rfl rfl (fun _ => (by first | exact o_fa tf89_2 rfl rfl | exact o_fap tf89_2 rfl rfl)) ?_
          refine d_op rfl rfl rfl (fun _ => (by first | exact o_ld tg3 rfl rfl | exact o_ldp tg3 rfl rfl rfl rfl)) ?_
          refine d_op rfl rfl rfl (fun _ => (by first | exact o_fa tf51_1 rfl rfl | exact o_fap tf51_1 rfl rfl)) ?_
          refine d_op rfl rfl rfl (fun _ => (by first | exact o_ld tg49 rfl rfl | exact o_ldp tg49 rfl rfl rfl rfl)) ?_
          refine d_op rfl rfl rfl (fun _ => o_mv rfl) ?_
          refine d_op rfl rfl rfl (fun _ => o_sub rfl rfl (by simp only [klo, khi]; omega)) ?_
          refine d_op rfl rfl rfl (fun _ => o_ix te49 tn89 rfl rfl (j := i - 1) (by omega) (ixm _ _ _ hb2)) ?_
          refine d_op rfl rfl rfl (fun _ => (by first | exact o_fa tf89_2 rfl rfl | exact o_fap tf89_2 rfl rfl)) ?_
          refine d_op rfl rfl rfl (fun _ => (by first | exact o_ld tg3 rfl rfl | exact o_ldp tg3 rfl rfl rfl rfl)) ?_
          refine d_if rfl rfl rfl (fun _ => o_le rfl rfl) (fun h21 => ?_) (fun h22 => ?_)
          · refine d_op rfl rfl rfl (fun _ => o_pkt rfl rfl) ?_
            refine d_op rfl rfl rfl (fun _ => o_pkf rfl rfl) ?_
            refine d_op rfl rfl rfl (fun _ => o_pkt rfl rfl) ?_
            refine d_nil ?_
            refine tq_n ?_
            refine w_true rfl ?_
            refine awp_seq ?_
            refine w_reg (l := r25_21.toList) rfl r25_21_ok ?_
            refine a_op rfl (o_mv rfl) ?_
            refine a_op rfl (o_as rfl) ?_
            refine a_op rfl (o_as rfl) ?_
            refine a_nil ?_
            refine tq_n ?_
            refine awp_ret ?_
            refine tq_r ?_
            refine bq_r ?_
            refine tq_r ?_
            refine tq_r ?_
            refine bq_r ?_
            refine tq_r ?_
            refine r_tup (xs := []) rfl ⟨rfl, rfl, trivial⟩ ?_
            have hx := fxI_hit hi hq (badSeat_yes2 hi (by omega) hb2 (by omega))
            have hr : checkF p = (((i : Nat) : Int), 282) := by rw [checkF, if_neg (by simp [*]), if_neg (by omega), if_neg (by omega), hx, if_pos (by omega)]
            exact rs_tup ⟨rs_int (by rw [hr]), rs_int (by rw [hr]), trivial⟩
          refine d_op rfl rfl rfl (fun _ => o_pkt rfl rfl) ?_
          refine d_op rfl rfl rfl (fun _ => o_pkf rfl rfl) ?_
          refine d_op rfl rfl rfl (fun _ => o_pkt rfl rfl) ?_
          refine d_nil ?_
          refine tq_n ?_
          refine w_false rfl ?_
          refine awp_skip ?_
          refine tq_n ?_
          refine awp_seq ?_
          obtain ⟨k1, hk1⟩ : ∃ k : Nat, p.seats[i].fst = k := ⟨p.seats[i].fst.toNat, by omega⟩
          obtain ⟨k2, hk2⟩ : ∃ k : Nat, p.seats[i].snd = k := ⟨p.seats[i].snd.toNat, by omega⟩
          have hkc1 : k1 < p.caps.length := by omega
          have hkc2 : k2 < p.caps.length := by omega
          have hl1 := loadS_len p.caps.length (·.fst) p.seats i
          have hl2 := loadS_len p.caps.length (·.snd) p.seats i
          have hm1 : k1 < (loadS p.caps.length (·.fst) p.seats i).length := by omega
          have hm2 : k2 < (loadS p.caps.length (·.snd) p.seats i).length := by omega
          have hv1 := loadS_bd p.caps.length (·.fst) p.seats hvol0 i (by omega) _ (List.getElem_mem hm1)
          have hv2 := loadS_bd p.caps.length (·.snd) p.seats hvol0 i (by omega) _ (List.getElem_mem hm2)
          have hvi := hvol _ (List.getElem_mem hi)
          have hat1 : ((loadS p.caps.length (·.fst) p.seats i).map intAV)[0 + k1]? = some (intAV (loadS p.caps.length (·.fst) p.seats i)[k1]) := by rw [Nat.zero_add]; exact mAt hm1
          have hat2 : ((loadS p.caps.length (·.snd) p.seats i).map intAV)[0 + k2]? = some (intAV (loadS p.caps.length (·.snd) p.seats i)[k2]) := by rw [Nat.zero_add]; exact mAt hm2
          refine awp_draw ⟨[[], [], [1], [0, 1, 2], [0, 1, 2, 3], [], [5], [0, 1, 2, 3, 4, 5, 6], [0, 1, 2, 3, 4, 5, 6, 7], [0, 1, 2, 3, 4, 5, 6, 7, 8]], [[8], [11], [118], [117, 119], [120], [11], [122], [121, 123], [117, 119], [124, 125]], [[], [], [3], [1], [1], [], [3], [], [1], [1]], [none, none, none, none, none, none, none, none, none, some 1]⟩ mo r25_22_ok (by decide +kernel) (l := r25_22.toList) rfl ?_
          refine d_op rfl rfl rfl (fun _ => o_mv rfl) ?_
          refine d_op rfl rfl rfl (fun _ => (by first | exact o_fa tf89_2 rfl rfl | exact o_fap tf89_2 rfl rfl)) ?_
          refine d_op rfl rfl rfl (fun _ => (by first | exact o_ld tg3 rfl rfl | exact o_ldp tg3 rfl rfl rfl rfl)) ?_
          refine d_op rfl rfl rfl (fun _ => o_ixo te34 tn3 rfl rfl rfl hk1 hkc1) ?_
          refine d_op rfl rfl rfl (fun _ => o_ldp (el := intAV (loadS p.caps.length (·.fst) p.seats i)[k1]) tg3 rfl rfl hat1 rfl) ?_
          refine d_op rfl rfl rfl (fun _ => (by first | exact o_fa tf89_1 rfl rfl | exact o_fap tf89_1 rfl rfl)) ?_
          refine d_op rfl rfl rfl (fun _ => (by first | exact o_ld tg3 rfl rfl | exact o_ldp tg3 rfl rfl rfl rfl)) ?_
          refine d_op rfl rfl rfl (fun _ => o_add rfl rfl (by simp only [klo, khi]; omega)) ?_
          refine d_op rfl rfl rfl (fun _ => o_ixo te34 tn3 rfl rfl rfl hk1 hkc1) ?_
          refine d_w0 rfl rfl rfl (fun _ => o_stp (N := 0) (el := intAV (loadS p.caps.length (·.fst) p.seats i)[k1]) tn3 rfl rfl rfl rfl rfl hat1 rfl (Nat.le_refl _)) rfl rfl rfl ?_
          refine d_nil ?_
          refine tq_n ?_
          refine awp_draw ⟨[[], [], [1], [0, 1, 2], [0, 1, 2, 3], [], [5], [0, 1, 2, 3, 4, 5, 6], [0, 1, 2, 3, 4, 5, 6, 7], [0, 1, 2, 3, 4, 5, 6, 7, 8]], [[9], [11], [127], [126, 128], [129], [11], [131], [130, 132], [126, 128], [133, 134]], [[], [], [3], [2], [2], [], [3], [], [2], [2]], [none, none, none, none, none, none, none, none, none, some 2]⟩ mo r25_23_ok (by decide +kernel) (l := r25_23.toList) rfl ?_
          refine d_op rfl rfl rfl (fun _ => o_mv rfl) ?_
          refine d_op rfl rfl rfl (fun _ => (by first | exact o_fa tf89_3 rfl rfl | exact o_fap tf89_3 rfl rfl)) ?_
          refine d_op rfl rfl rfl (fun _ => (by first | exact o_ld tg3 rfl rfl | exact o_ldp tg3 rfl rfl rfl rfl)) ?_
          refine d_op rfl rfl rfl (fun _ => o_ixo te34 tn3 rfl rfl rfl hk2 hkc2) ?_
          refine d_op rfl rfl rfl (fun _ => o_ldp (el := intAV (loadS p.caps.length (·.snd) p.seats i)[k2]) tg3 rfl rfl hat2 rfl) ?_
          refine d_op rfl rfl rfl (fun _ => (by first | exact o_fa tf89_1 rfl rfl | exact o_fap tf89_1 rfl rfl)) ?_
          refine d_op rfl rfl rfl (fun _ => (by first | exact o_ld tg3 rfl rfl | exact o_ldp tg3 rfl rfl rfl rfl)) ?_
          refine d_op rfl rfl rfl (fun _ => o_add rfl rfl (by simp only [klo, khi]; omega)) ?_
          refine d_op rfl rfl rfl (fun _ => o_ixo te34 tn3 rfl rfl rfl hk2 hkc2) ?_
          refine d_w0 rfl rfl rfl (fun _ => o_stp (N := 0) (el := intAV (loadS p.caps.length (·.snd) p.seats i)[k2]) tn3 rfl rfl rfl rfl rfl hat2 rfl (Nat.le_refl _)) rfl rfl rfl ?_
          refine d_nil ?_
          refine bq_n ?_
          refine tq_n ?_
          refine w_heq (H1 := [.var (planC b p), .vec 1 1 (((loadS p.caps.length (·.fst) p.seats i).set k1 ((loadS p.caps.length (·.fst) p.seats i)[k1] + p.seats[i].vol)).map intAV), .vec 1 1 (((loadS p.caps.length (·.snd) p.seats i).set k2 ((loadS p.caps.length (·.snd) p.seats i)[k2] + p.seats[i].vol)).map intAV), .var (seatAV p.seats[i]).cells]) (by rw [Nat.zero_add, Nat.zero_add, List.map_set, List.map_set]; rfl) ?_
          refine w_view [(1, .ptr 0 0), (8, .slo 1 1 0 p.caps.length), (9, .slo 2 1 0 p.caps.length), (53, .sl 4 b.b1 (p.seats.map seatAV)), (54, .raw (.int .i64 ((p.seats.length : Nat) : Int))), (55, .raw (.int .i64 ((i : Nat) : Int)))] [.var (planC b p), .vec 1 1 (((loadS p.caps.length (·.fst) p.seats i).set k1 ((loadS p.caps.length (·.fst) p.seats i)[k1] + p.seats[i].vol)).map intAV), .vec 1 1 (((loadS p.caps.length (·.snd) p.seats i).set k2 ((loadS p.caps.length (·.snd) p.seats i)[k2] + p.seats[i].vol)).map intAV)] 3 rfl (Nat.le_of_ble_eq_true rfl) (Nat.le_of_ble_eq_true rfl) ⟨⟨_, rfl, (by first | exact .mpK (Nat.le_of_ble_eq_true rfl) | exact .sloK (Nat.le_of_ble_eq_true rfl) | exact .ptrK (Nat.le_of_ble_eq_true rfl) | exact rs_pur (by simp) rfl)⟩, ⟨_, rfl, (by first | exact .mpK (Nat.le_of_ble_eq_true rfl) | exact .sloK (Nat.le_of_ble_eq_true rfl) | exact .ptrK (Nat.le_of_ble_eq_true rfl) | exact rs_pur (by simp) rfl)⟩, ⟨_, rfl, (by first | exact .mpK (Nat.le_of_ble_eq_true rfl) | exact .sloK (Nat.le_of_ble_eq_true rfl) | exact .ptrK (Nat.le_of_ble_eq_true rfl) | exact rs_pur (by simp) rfl)⟩, ⟨_, rfl, (by first | exact .mpK (Nat.le_of_ble_eq_true rfl) | exact .sloK (Nat.le_of_ble_eq_true rfl) | exact .ptrK (Nat.le_of_ble_eq_true rfl) | exact rs_pur (by simp) rfl)⟩, ⟨_, rfl, (by first | exact .mpK (Nat.le_of_ble_eq_true rfl) | exact .sloK (Nat.le_of_ble_eq_true rfl) | exact .ptrK (Nat.le_of_ble_eq_true rfl) | exact rs_pur (by simp) rfl)⟩, ⟨_, rfl, (by first | exact .mpK (Nat.le_of_ble_eq_true rfl) | exact .sloK (Nat.le_of_ble_eq_true rfl) | exact .ptrK (Nat.le_of_ble_eq_true rfl) | exact rs_pur (by simp) rfl)⟩, trivial⟩ ⟨ors_var ⟨rs_pur (by simp) rfl, rs_pur (by simp) rfl, rs_pur (by simp) rfl, rs_pur (by simp) rfl, trivial⟩, ors_vec (pu_int _), ors_vec (pu_int _), trivial⟩ ?_
          refine w_reg (l := r25_24.toList) rfl r25_24_ok ?_
          refine a_op rfl (o_add rfl rfl (by simp only [klo, khi]; omega)) ?_
          refine a_op rfl (o_mv rfl) ?_
          refine a_nil ?_
          refine tq_n ?_
          exact ⟨i + 1, ⟨⟨by omega, all_succ hq (badSeat_no hi (by assumption) (by assumption) (by first | exact .inl (by omega) | exact .inr ⟨hb2, by omega⟩))⟩, by omega⟩, ⟨(by first | exact sub_int rfl (by omega) | rfl), (by first | exact sub_int rfl (by omega) | rfl), (by first | exact sub_int rfl (by omega) | rfl), (by first | exact sub_int rfl (by omega) | rfl), (by first | exact sub_int rfl (by omega) | rfl), (by first | exact sub_int rfl (by omega) | rfl), trivial⟩, by rw [loadS_succ hi hk1 hm1, loadS_succ hi hk2 hm2]⟩
        refine d_op rfl rfl rfl (fun _ => o_mv rfl) ?_
        refine d_off rfl rfl ?_
        refine d_off rfl rfl ?_
        refine d_off rfl rfl ?_
        refine d_off rfl rfl ?_
        refine d_off rfl rfl ?_
        refine d_off rfl rfl ?_
        refine d_off rfl rfl ?_
        refine d_off rfl rfl ?_
        refine d_off rfl rfl ?_
        refine d_off rfl rfl ?_
        refine d_op rfl rfl rfl (fun _ => o_pkf rfl rfl) ?_
        refine d_op rfl rfl rfl (fun _ => o_pkf rfl rfl) ?_
        refine d_op rfl rfl rfl (fun _ => o_pkt rfl rfl) ?_
        refine d_nil ?_
        refine tq_n ?_
        refine w_false rfl ?_
        refine awp_skip ?_
        refine tq_n ?_
        refine awp_seq ?_
        obtain ⟨k1, hk1⟩ : ∃ k : Nat, p.seats[i].fst = k := ⟨p.seats[i].fst.toNat, by omega⟩
        obtain ⟨k2, hk2⟩ : ∃ k : Nat, p.seats[i].snd = k := ⟨p.seats[i].snd.toNat, by omega⟩
        have hkc1 : k1 < p.caps.length := by omega
        have hkc2 : k2 < p.caps.length := by omega
        have hl1 := loadS_len p.caps.length (·.fst) p.seats i
        have hl2 := loadS_len p.caps.length (·.snd) p.seats i
        have hm1 : k1 < (loadS p.caps.length (·.fst) p.seats i).length := by omega
        have hm2 : k2 < (loadS p.caps.length (·.snd) p.seats i).length := by omega
        have hv1 := loadS_bd p.caps.length (·.fst) p.seats hvol0 i (by omega) _ (List.getElem_mem hm1)
        have hv2 := loadS_bd p.caps.length (·.snd) p.seats hvol0 i (by omega) _ (List.getElem_mem hm2)
        have hvi := hvol _ (List.getElem_mem hi)
        have hat1 : ((loadS p.caps.length (·.fst) p.seats i).map intAV)[0 + k1]? = some (intAV (loadS p.caps.length (·.fst) p.seats i)[k1]) := by rw [Nat.zero_add]; exact mAt hm1
        have hat2 : ((loadS p.caps.length (·.snd) p.seats i).map intAV)[0 + k2]? = some (intAV (loadS p.caps.length (·.snd) p.seats i)[k2]) := by rw [Nat.zero_add]; exact mAt hm2
        refine awp_draw ⟨[[], [], [1], [0, 1, 2], [0, 1, 2, 3], [], [5], [0, 1, 2, 3, 4, 5, 6], [0, 1, 2, 3, 4, 5, 6, 7], [0, 1, 2, 3, 4, 5, 6, 7, 8]], [[8], [11], [118], [117, 119], [120], [11], [122], [121, 123], [117, 119], [124, 125]], [[], [], [3], [1], [1], [], [3], [], [1], [1]], [none, none, none, none, none, none, none, none, none, some 1]⟩ mo r25_22_ok (by decide +kernel) (l := r25_22.toList) rfl ?_
        refine d_op rfl rfl rfl (fun _ => o_mv rfl) ?_
        refine d_op rfl rfl rfl (fun _ => (by first | exact o_fa tf89_2 rfl rfl | exact o_fap tf89_2 rfl rfl)) ?_
        refine d_op rfl rfl rfl (fun _ => (by first | exact o_ld tg3 rfl rfl | exact o_ldp tg3 rfl rfl rfl rfl)) ?_
        refine d_op rfl rfl rfl (fun _ => o_ixo te34 tn3 rfl rfl rfl hk1 hkc1) ?_
        refine d_op rfl rfl rfl (fun _ => o_ldp (el := intAV (loadS p.caps.length (·.fst) p.seats i)[k1]) tg3 rfl rfl hat1 rfl) ?_
        refine d_op rfl rfl rfl (fun _ => (by first | exact o_fa tf89_1 rfl rfl | exact o_fap tf89_1 rfl rfl)) ?_
        refine d_op rfl rfl rfl (fun _ => (by first | exact o_ld tg3 rfl rfl | exact o_ldp tg3 rfl rfl rfl rfl)) ?_
        refine d_op rfl rfl rfl (fun _ => o_add rfl rfl (by simp only [klo, khi]; omega)) ?_
        refine d_op rfl rfl rfl (fun _ => o_ixo te34 tn3 rfl rfl rfl hk1 hkc1) ?_
        refine d_w0 rfl rfl rfl (fun _ => o_stp (N := 0) (el := intAV (loadS p.caps.length (·.fst) p.seats i)[k1]) tn3 rfl rfl rfl rfl rfl hat1 rfl (Nat.le_refl _)) rfl rfl rfl ?_
        refine d_nil ?_
        refine tq_n ?_
        refine awp_draw ⟨[[], [], [1], [0, 1, 2], [0, 1, 2, 3], [], [5], [0, 1, 2, 3, 4, 5, 6], [0, 1, 2, 3, 4, 5, 6, 7], [0, 1, 2, 3, 4, 5, 6, 7, 8]], [[9], [11], [127], [126, 128], [129], [11], [131], [130, 132], [126, 128], [133, 134]], [[], [], [3], [2], [2], [], [3], [], [2], [2]], [none, none, none, none, none, none, none, none, none, some 2]⟩ mo r25_23_ok (by decide +kernel) (l := r25_23.toList) rfl ?_
        refine d_op rfl rfl rfl (fun _ => o_mv rfl) ?_
        refine d_op rfl rfl rfl (fun _ => (by first | exact o_fa tf89_3 rfl rfl | exact o_fap tf89_3 rfl rfl)) ?_
        refine d_op rfl rfl rfl (fun _ => (by first | exact o_ld tg3 rfl rfl | exact o_ldp tg3 rfl rfl rfl rfl)) ?_
        refine d_op rfl rfl rfl (fun _ => o_ixo te34 tn3 rfl rfl rfl hk2 hkc2) ?_
        refine d_op rfl rfl rfl (fun _ => o_ldp (el := intAV (loadS p.caps.length (·.snd) p.seats i)[k2]) tg3 rfl rfl hat2 rfl) ?_
        refine d_op rfl rfl rfl (fun _ => (by first | exact o_fa tf89_1 rfl rfl | exact o_fap tf89_1 rfl rfl)) ?_
        refine d_op rfl rfl rfl (fun _ => (by first | exact o_ld tg3 rfl rfl | exact o_ldp tg3 rfl rfl rfl rfl)) ?_
        refine d_op rfl rfl rfl (fun _ => o_add rfl rfl (by simp only [klo, khi]; omega)) ?_
        refine d_op rfl rfl rfl (fun _ => o_ixo te34 tn3 rfl rfl rfl hk2 hkc2) ?_
        refine d_w0 rfl rfl rfl (fun _ => o_stp (N := 0) (el := intAV (loadS p.caps.length (·.snd) p.seats i)[k2]) tn3 rfl rfl rfl rfl rfl hat2 rfl (Nat.le_refl _)) rfl rfl rfl ?_
        refine d_nil ?_
        refine bq_n ?_
        refine tq_n ?_
        refine w_heq (H1 := [.var (planC b p), .vec 1 1 (((loadS p.caps.length (·.fst) p.seats i).set k1 ((loadS p.caps.length (·.fst) p.seats i)[k1] + p.seats[i].vol)).map intAV), .vec 1 1 (((loadS p.caps.length (·.snd) p.seats i).set k2 ((loadS p.caps.length (·.snd) p.seats i)[k2] + p.seats[i].vol)).map intAV), .var (seatAV p.seats[i]).cells]) (by rw [Nat.zero_add, Nat.zero_add, List.map_set, List.map_set]; rfl) ?_
        refine w_view [(1, .ptr 0 0), (8, .slo 1 1 0 p.caps.length), (9, .slo 2 1 0 p.caps.length), (53, .sl 4 b.b1 (p.seats.map seatAV)), (54, .raw (.int .i64 ((p.seats.length : Nat) : Int))), (55, .raw (.int .i64 ((i : Nat) : Int)))] [.var (planC b p), .vec 1 1 (((loadS p.caps.length (·.fst) p.seats i).set k1 ((loadS p.caps.length (·.fst) p.seats i)[k1] + p.seats[i].vol)).map intAV), .vec 1 1 (((loadS p.caps.length (·.snd) p.seats i).set k2 ((loadS p.caps.length (·.snd) p.seats i)[k2] + p.seats[i].vol)).map intAV)] 3 rfl (Nat.le_of_ble_eq_true rfl) (Nat.le_of_ble_eq_true rfl) ⟨⟨_, rfl, (by first | exact .mpK (Nat.le_of_ble_eq_true rfl) | exact .sloK (Nat.le_of_ble_eq_true rfl) | exact .ptrK (Nat.le_of_ble_eq_true rfl) | exact rs_pur (by simp) rfl)⟩, ⟨_, rfl, (by first | exact .mpK (Nat.le_of_ble_eq_true rfl) | exact .sloK (Nat.le_of_ble_eq_true rfl) | exact .ptrK (Nat.le_of_ble_eq_true rfl) | exact rs_pur (by simp) rfl)⟩, ⟨_, rfl, (by first | exact .mpK (Nat.le_of_ble_eq_true rfl) | exact .sloK (Nat.le_of_ble_eq_true rfl) | exact .ptrK (Nat.le_of_ble_eq_true rfl) | exact rs_pur (by simp) rfl)⟩, ⟨_, rfl, (by first | exact .mpK (Nat.le_of_ble_eq_true rfl) | exact .sloK (Nat.le_of_ble_eq_true rfl) | exact .ptrK (Nat.le_of_ble_eq_true rfl) | exact rs_pur (by simp) rfl)⟩, ⟨_, rfl, (by first | exact .mpK (Nat.le_of_ble_eq_true rfl) | exact .sloK (Nat.le_of_ble_eq_true rfl) | exact .ptrK (Nat.le_of_ble_eq_true rfl) | exact rs_pur (by simp) rfl)⟩, ⟨_, rfl, (by first | exact .mpK (Nat.le_of_ble_eq_true rfl) | exact .sloK (Nat.le_of_ble_eq_true rfl) | exact .ptrK (Nat.le_of_ble_eq_true rfl) | exact rs_pur (by simp) rfl)⟩, trivial⟩ ⟨ors_var ⟨rs_pur (by simp) rfl, rs_pur (by simp) rfl, rs_pur (by simp) rfl, rs_pur (by simp) rfl, trivial⟩, ors_vec (pu_int _), ors_vec (pu_int _), trivial⟩ ?_
        refine w_reg (l := r25_24.toList) rfl r25_24_ok ?_
        refine a_op rfl (o_add rfl rfl (by simp only [klo, khi]; omega)) ?_
        refine a_op rfl (o_mv rfl) ?_
        refine a_nil ?_
        refine tq_n ?_
        exact ⟨i + 1, ⟨⟨by omega, all_succ hq (badSeat_no hi (by assumption) (by assumption) (by first | exact .inl (by omega) | exact .inr ⟨hb2, by omega⟩))⟩, by omega⟩, ⟨(by first | exact sub_int rfl (by omega) | rfl), (by first | exact sub_int rfl (by omega) | rfl), (by first | exact sub_int rfl (by omega) | rfl), (by first | exact sub_int rfl (by omega) | rfl), (by first | exact sub_int rfl (by omega) | rfl), (by first | exact sub_int rfl (by omega) | rfl), trivial⟩, by rw [loadS_succ hi hk1 hm1, loadS_succ hi hk2 hm2]⟩
      refine d_op rfl rfl rfl (fun _ => o_mv rfl) ?_
      refine d_off rfl rfl ?_
      refine d_off rfl rfl ?_
      refine d_off rfl rfl ?_
      refine d_off rfl rfl ?_
      refine d_off rfl rfl ?_
      refine d_off rfl rfl ?_
      refine d_off rfl rfl ?_
      refine d_off rfl rfl ?_
      refine d_off rfl rfl ?_
      refine d_off rfl rfl ?_
      refine d_off rfl rfl ?_
      refine d_off rfl rfl ?_
      refine d_off rfl rfl ?_
      refine d_off rfl rfl ?_
      refine d_off rfl rfl ?_
      refine d_off rfl rfl ?_
      refine d_off rfl rfl ?_
      refine d_off rfl rfl ?_
      refine d_off rfl rfl ?_
      refine d_off rfl rfl ?_
      refine d_off rfl rfl ?_
      refine d_off rfl rfl ?_
      refine d_off rfl rfl ?_
      refine d_off rfl rfl ?_
      refine d_off rfl rfl ?_
      refine d_off rfl rfl ?_
      refine d_off rfl rfl ?_
      refine d_off rfl rfl ?_
      refine d_off rfl rfl ?_
      refine d_off rfl rfl ?_
      refine d_off rfl rfl ?_
      refine d_off rfl rfl ?_
      refine d_off rfl rfl ?_
      refine d_off rfl rfl ?_
      refine d_op rfl rfl rfl (fun _ => o_pkf rfl rfl) ?_
      refine d_nil ?_
      refine tq_n ?_
      refine w_false rfl ?_
      refine awp_skip ?_
      refine tq_n ?_
      refine awp_seq ?_
      obtain ⟨k1, hk1⟩ : ∃ k : Nat, p.seats[i].fst = k := ⟨p.seats[i].fst.toNat, by omega⟩
      obtain ⟨k2, hk2⟩ : ∃ k : Nat, p.seats[i].snd = k := ⟨p.seats[i].snd.toNat, by omega⟩
      have hkc1 : k1 < p.caps.length := by omega
      have hkc2 : k2 < p.caps.length := by omega
      have hl1 := loadS_len p.caps.length (·.fst) p.seats i
      have hl2 := loadS_len p.caps.length (·.snd) p.seats i
      have hm1 : k1 < (loadS p.caps.length (·.fst) p.seats i).length := by omega
      have hm2 : k2 < (loadS p.caps.length (·.snd) p.seats i).length := by omega
      have hv1 := loadS_bd p.caps.length (·.fst) p.seats hvol0 i (by omega) _ (List.getElem_mem hm1)
      have hv2 := loadS_bd p.caps.length (·.snd) p.seats hvol0 i (by omega) _ (List.getElem_mem hm2)
      have hvi := hvol _ (List.getElem_mem hi)
      have hat1 : ((loadS p.caps.length (·.fst) p.seats i).map intAV)[0 + k1]? = some (intAV (loadS p.caps.length (·.fst) p.seats i)[k1]) := by rw [Nat.zero_add]; exact mAt hm1
      have hat2 : ((loadS p.caps.length (·.snd) p.seats i).map intAV)[0 + k2]? = some (intAV (loadS p.caps.length (·.snd) p.seats i)[k2]) := by rw [Nat.zero_add]; exact mAt hm2
      refine awp_draw ⟨[[], [], [1], [0, 1, 2], [0, 1, 2, 3], [], [5], [0, 1, 2, 3, 4, 5, 6], [0, 1, 2, 3, 4, 5, 6, 7], [0, 1, 2, 3, 4, 5, 6, 7, 8]], [[8], [11], [118], [117, 119], [120], [11], [122], [121, 123], [117, 119], [124, 125]], [[], [], [3], [1], [1], [], [3], [], [1], [1]], [none, none, none, none, none, none, none, none, none, some 1]⟩ mo r25_22_ok (by decide +kernel) (l := r25_22.toList) rfl ?_
      refine d_op rfl rfl rfl (fun _ => o_mv rfl) ?_
      refine d_op rfl rfl rfl (fun _ => (by first | exact o_fa tf89_2 rfl rfl | exact o_fap tf89_2 rfl rfl)) ?_
      refine d_op rfl rfl rfl (fun _ => (by first | exact o_ld tg3 rfl rfl | exact o_ldp tg3 rfl rfl rfl rfl)) ?_
      refine d_op rfl rfl rfl (fun _ => o_ixo te34 tn3 rfl rfl rfl hk1 hkc1) ?_
      refine d_op rfl rfl rfl (fun _ => o_ldp (el := intAV (loadS p.caps.length (·.fst) p.seats i)[k1]) tg3 rfl rfl hat1 rfl) ?_
      refine d_op rfl rfl rfl (fun _ => (by first | exact o_fa tf89_1 rfl rfl | exact o_fap tf89_1 rfl rfl)) ?_
      refine d_op rfl rfl rfl (fun _ => (by first | exact o_ld tg3 rfl rfl | exact o_ldp tg3 rfl rfl rfl rfl)) ?_
      refine d_op rfl rfl rfl (fun _ => o_add rfl rfl (by simp only [klo, khi]; omega)) ?_
      refine d_op rfl rfl rfl (fun _ => o_ixo te34 tn3 rfl rfl rfl hk1 hkc1) ?_
      refine d_w0 rfl rfl rfl (fun _ => o_stp (N := 0) (el := intAV (loadS p.caps.length (·.fst) p.seats i)[k1]) tn3 rfl rfl rfl rfl rfl hat1 rfl (Nat.le_refl _)) rfl rfl rfl ?_
      refine d_nil ?_
      refine tq_n ?_
      refine awp_draw ⟨[[], [], [1], [0, 1, 2], [0, 1, 2, 3], [], [5], [0, 1, 2, 3, 4, 5, 6], [0, 1, 2, 3, 4, 5, 6, 7], [0, 1, 2, 3, 4, 5, 6, 7, 8]], [[9], [11], [127], [126, 128], [129], [11], [131], [130, 132], [126, 128], [133, 134]], [[], [], [3], [2], [2], [], [3], [], [2], [2]], [none, none, none, none, none, none, none, none, none, some 2]⟩ mo r25_23_ok (by decide +kernel) (l := r25_23.toList) rfl ?_
      refine d_op rfl rfl rfl (fun _ => o_mv rfl) ?_
      refine d_op rfl rfl rfl (fun _ => (by first | exact o_fa tf89_3 rfl rfl | exact o_fap tf89_3 rfl rfl)) ?_
      refine d_op rfl rfl rfl (fun _ => (by first | exact o_ld tg3 rfl rfl | exact o_ldp tg3 rfl rfl rfl rfl)) ?_
      refine d_op rfl rfl rfl (fun _ => o_ixo te34 tn3 rfl rfl rfl hk2 hkc2) ?_
      refine d_op rfl rfl rfl (fun _ => o_ldp (el := intAV (loadS p.caps.length (·.snd) p.seats i)[k2]) tg3 rfl rfl hat2 rfl) ?_
      refine d_op rfl rfl rfl (fun _ => (by first | exact o_fa tf89_1 rfl rfl | exact o_fap tf89_1 rfl rfl)) ?_
      refine d_op rfl rfl rfl (fun _ => (by first | exact o_ld tg3 rfl rfl | exact o_ldp tg3 rfl rfl rfl rfl)) ?_
      refine d_op rfl rfl rfl (fun _ => o_add rfl rfl (by simp only [klo, khi]; omega)) ?_
      refine d_op rfl rfl rfl (fun _ => o_ixo te34 tn3 rfl rfl rfl hk2 hkc2) ?_
      refine d_w0 rfl rfl rfl (fun _ => o_stp (N := 0) (el := intAV (loadS p.caps.length (·.snd) p.seats i)[k2]) tn3 rfl rfl rfl rfl rfl hat2 rfl (Nat.le_refl _)) rfl rfl rfl ?_
      refine d_nil ?_
      refine bq_n ?_
      refine tq_n ?_
      refine w_heq (H1 := [.var (planC b p), .vec 1 1 (((loadS p.caps.length (·.fst) p.seats i).set k1 ((loadS p.caps.length (·.fst) p.seats i)[k1] + p.seats[i].vol)).map intAV), .vec 1 1 (((loadS p.caps.length (·.snd) p.seats i).set k2 ((loadS p.caps.length (·.snd) p.seats i)[k2] + p.seats[i].vol)).map intAV), .var (seatAV p.seats[i]).cells]) (by rw [Nat.zero_add, Nat.zero_add, List.map_set, List.map_set]; rfl) ?_
      refine w_view [(1, .ptr 0 0), (8, .slo 1 1 0 p.caps.length), (9, .slo 2 1 0 p.caps.length), (53, .sl 4 b.b1 (p.seats.map seatAV)), (54, .raw (.int .i64 ((p.seats.length : Nat) : Int))), (55, .raw (.int .i64 ((i : Nat) : Int)))] [.var (planC b p), .vec 1 1 (((loadS p.caps.length (·.fst) p.seats i).set k1 ((loadS p.caps.length (·.fst) p.seats i)[k1] + p.seats[i].vol)).map intAV), .vec 1 1 (((loadS p.caps.length (·.snd) p.seats i).set k2 ((loadS p.caps.length (·.snd) p.seats i)[k2] + p.seats[i].vol)).map intAV)] 3 rfl (Nat.le_of_ble_eq_true rfl) (Nat.le_of_ble_eq_true rfl) ⟨⟨_, rfl, (by first | exact .mpK (Nat.le_of_ble_eq_true rfl) | exact .sloK (Nat.le_of_ble_eq_true rfl) | exact .ptrK (Nat.le_of_ble_eq_true rfl) | exact rs_pur (by simp) rfl)⟩, ⟨_, rfl, (by first | exact .mpK (Nat.le_of_ble_eq_true rfl) | exact .sloK (Nat.le_of_ble_eq_true rfl) | exact .ptrK (Nat.le_of_ble_eq_true rfl) | exact rs_pur (by simp) rfl)⟩, ⟨_, rfl, (by first | exact .mpK (Nat.le_of_ble_eq_true rfl) | exact .sloK (Nat.le_of_ble_eq_true rfl) | exact .ptrK (Nat.le_of_ble_eq_true rfl) | exact rs_pur (by simp) rfl)⟩, ⟨_, rfl, (by first | exact .mpK (Nat.le_of_ble_eq_true rfl) | exact .sloK (Nat.le_of_ble_eq_true rfl) | exact .ptrK (Nat.le_of_ble_eq_true rfl) | exact rs_pur (by simp) rfl)⟩, ⟨_, rfl, (by first | exact .mpK (Nat.le_of_ble_eq_true rfl) | exact .sloK (Nat.le_of_ble_eq_true rfl) | exact .ptrK (Nat.le_of_ble_eq_true rfl) | exact rs_pur (by simp) rfl)⟩, ⟨_, rfl, (by first | exact .mpK (Nat.le_of_ble_eq_true rfl) | exact .sloK (Nat.le_of_ble_eq_true rfl) | exact .ptrK (Nat.le_of_ble_eq_true rfl) | exact rs_pur (by simp) rfl)⟩, trivial⟩ ⟨ors_var ⟨rs_pur (by simp) rfl, rs_pur (by simp) rfl, rs_pur (by simp) rfl, rs_pur (by simp) rfl, trivial⟩, ors_vec (pu_int _), ors_vec (pu_int _), trivial⟩ ?_
      refine w_reg (l := r25_24.toList) rfl r25_24_ok ?_
      refine a_op rfl (o_add rfl rfl (by simp only [klo, khi]; omega)) ?_
      refine a_op rfl (o_mv rfl) ?_
      refine a_nil ?_
      refine tq_n ?_
      exact ⟨i + 1, ⟨⟨by omega, all_succ hq (badSeat_no hi (by assumption) (by assumption) (by first | exact .inl (by omega) | exact .inr ⟨hb2, by omega⟩))⟩, by omega⟩, ⟨(by first | exact sub_int rfl (by omega) | rfl), (by first | exact sub_int rfl (by omega) | rfl), (by first | exact sub_int rfl (by omega) | rfl), (by first | exact sub_int rfl (by omega) | rfl), (by first | exact sub_int rfl (by omega) | rfl), (by first | exact sub_int rfl (by omega) | rfl), trivial⟩, by rw [loadS_succ hi hk1 hm1, loadS_succ hi hk2 hm2]⟩
    refine a_nil ?_
    refine tq_n ?_
    refine awp_seq ?_
    refine w_false rfl ?_
    refine awp_exit ?_
    refine tq_x ?_
    refine tq_x ?_
    refine bq_hit ?_
    refine tq_n ?_
    refine awp_seq ?_
    refine awp_seq ?_
    refine w_reg (l := r25_25.toList) rfl r25_25_ok ?_
    refine a_op rfl ((by first | exact o_fa tf51_2 rfl rfl | exact o_fap tf51_2 rfl rfl)) ?_
    refine a_op rfl ((by first | exact o_ld tg34 rfl rfl | exact o_ldp tg34 rfl rfl rfl rfl)) ?_
    refine a_op rfl (o_len rfl rfl (by first | exact List.length_map .. | rfl) tl34) ?_
    refine a_op rfl ((by first | exact o_fa tf51_0 rfl rfl | exact o_fap tf51_0 rfl rfl)) ?_
    refine a_op rfl ((by first | exact o_ld tg34 rfl rfl | exact o_ldp tg34 rfl rfl rfl rfl)) ?_
    refine a_op rfl (o_len rfl rfl (by first | exact List.length_map .. | rfl) tl34) ?_
    refine a_if rfl (o_ne rfl rfl) (fun h23 => ?_) (fun h24 => ?_)
    · refine a_op rfl (o_mv rfl) ?_
      refine a_off rfl ?_
      refine a_off rfl ?_
      refine a_off rfl ?_
      refine a_off rfl ?_
      refine a_off rfl ?_
      refine a_off rfl ?_
      refine a_off rfl ?_
      refine a_op rfl (o_pkt rfl rfl) ?_
      refine a_nil ?_
      refine tq_n ?_
      refine w_true rfl ?_
      refine awp_seq ?_
      refine w_reg (l := r25_26.toList) rfl r25_26_ok ?_
      refine a_op rfl (o_as rfl) ?_
      refine a_op rfl (o_as rfl) ?_
      refine a_nil ?_
      refine tq_n ?_
      refine awp_ret ?_
      refine tq_r ?_
      refine r_tup (xs := []) rfl ⟨rfl, rfl, trivial⟩ ?_
      have hx : fxI (badSeat p.caps.length p.seats) p.seats.length = -1 := fxI_none (by rw [show i = p.seats.length by omega] at hq; exact hq)
      have hr : checkF p = (0, 283) := by rw [checkF, if_neg (by simp [*]), if_neg (by omega), if_neg (by omega), hx, if_neg (by omega), if_pos (by omega)]
      exact rs_tup ⟨rs_int (by rw [hr]), rs_int (by rw [hr]), trivial⟩
    refine a_op rfl (o_mv rfl) ?_
    refine a_op rfl ((by first | exact o_fa tf51_3 rfl rfl | exact o_fap tf51_3 rfl rfl)) ?_
    refine a_op rfl ((by first | exact o_ld tg34 rfl rfl | exact o_ldp tg34 rfl rfl rfl rfl)) ?_
    refine a_op rfl (o_len rfl rfl (by first | exact List.length_map .. | rfl) tl34) ?_
    refine a_op rfl ((by first | exact o_fa tf51_0 rfl rfl | exact o_fap tf51_0 rfl rfl)) ?_
    refine a_op rfl ((by first | exact o_ld tg34 rfl rfl | exact o_ldp tg34 rfl rfl rfl rfl)) ?_
    refine a_op rfl (o_len rfl rfl (by first | exact List.length_map .. | rfl) tl34) ?_
    refine a_if rfl (o_ne rfl rfl) (fun h25 => ?_) (fun h26 => ?_)
    · refine a_op rfl (o_pkf rfl rfl) ?_
      refine a_nil ?_
      refine tq_n ?_
      refine w_true rfl ?_
      refine awp_seq ?_
      refine w_reg (l := r25_26.toList) rfl r25_26_ok ?_
      refine a_op rfl (o_as rfl) ?_
      refine a_op rfl (o_as rfl) ?_
      refine a_nil ?_
      refine tq_n ?_
      refine awp_ret ?_
      refine tq_r ?_
      refine r_tup (xs := []) rfl ⟨rfl, rfl, trivial⟩ ?_
      have hx : fxI (badSeat p.caps.length p.seats) p.seats.length = -1 := fxI_none (by rw [show i = p.seats.length by omega] at hq; exact hq)
      have hr : checkF p = (0, 283) := by rw [checkF, if_neg (by simp [*]), if_neg (by omega), if_neg (by omega), hx, if_neg (by omega), if_pos (by omega)]
      exact rs_tup ⟨rs_int (by rw [hr]), rs_int (by rw [hr]), trivial⟩
    refine a_op rfl (o_pkf rfl rfl) ?_
    refine a_nil ?_
    refine tq_n ?_
    refine w_false rfl ?_
    refine awp_skip ?_
    refine tq_n ?_
    refine awp_seq ?_
    refine awp_seq ?_
    have hlF := loadS_len p.caps.length (·.fst) p.seats p.seats.length
    have hlS := loadS_len p.caps.length (·.snd) p.seats p.seats.length
    refine w_reg (l := r25_27.toList) rfl r25_27_ok ?_
    refine a_op rfl ((by first | exact o_fa tf51_0 rfl rfl | exact o_fap tf51_0 rfl rfl)) ?_
    refine a_op rfl ((by first | exact o_ld tg34 rfl rfl | exact o_ldp tg34 rfl rfl rfl rfl)) ?_
    refine a_op rfl (o_len rfl rfl (by first | exact List.length_map .. | rfl) tl34) ?_
    refine a_op rfl (o_mv rfl) ?_
    refine a_nil ?_
    refine tq_n ?_
    refine awp_block ?_
    refine w_loop (fun j : Nat => j ≤ p.caps.length ∧ ∀ q, q < j → badLoad p q = false) (fun j => [(1, .ptr 0 0), (8, .slo 1 1 0 p.caps.length), (9, .slo 2 1 0 p.caps.length), (154, .raw (.int .i64 ((p.caps.length : Nat) : Int))), (155, .raw (.int .i64 ((j : Nat) : Int)))]) (fun _ => [.var (planC b p), .vec 1 1 ((loadS p.caps.length (·.fst) p.seats p.seats.length).map intAV), .vec 1 1 ((loadS p.caps.length (·.snd) p.seats p.seats.length).map intAV)]) (fun j => p.caps.length - j) (0) ⟨by simp, by simp⟩ ⟨(by first | exact sub_int rfl (by omega) | rfl), (by first | exact sub_int rfl (by omega) | rfl), (by first | exact sub_int rfl (by omega) | rfl), (by first | exact sub_int rfl (by omega) | rfl), (by first | exact sub_int rfl (by omega) | rfl), trivial⟩ (by rw [show i = p.seats.length by omega]) ?_
    intro j ⟨hp2, hq2⟩
    unfold b25_2
    refine awp_seq ?_
    refine w_reg (l := r25_28.toList) rfl r25_28_ok ?_
    refine a_if rfl (o_lt rfl rfl) (fun h27 => ?_) (fun h28 => ?_)
    · refine a_nil ?_
      refine tq_n ?_
      refine awp_seq ?_
      refine w_true rfl ?_
      refine awp_skip ?_
      refine tq_n ?_
      refine awp_seq ?_
      refine awp_block ?_
      refine awp_seq ?_
      have hjc : j < p.caps.length := by omega
      have hjf : j < p.first.length := by omega
      have hjs : j < p.second.length := by omega
      have hF1 : j < (loadS p.caps.length (·.fst) p.seats p.seats.length).length := by omega
      have hF2 : j < (loadS p.caps.length (·.snd) p.seats p.seats.length).length := by omega
      have hatF : ((loadS p.caps.length (·.fst) p.seats p.seats.length).map intAV)[0 + j]? = some (intAV (loadS p.caps.length (·.fst) p.seats p.seats.length)[j]) := by rw [Nat.zero_add]; exact mAt hF1
      have hatS : ((loadS p.caps.length (·.snd) p.seats p.seats.length).map intAV)[0 + j]? = some (intAV (loadS p.caps.length (·.snd) p.seats p.seats.length)[j]) := by rw [Nat.zero_add]; exact mAt hF2
      refine w_reg (l := r25_29.toList) rfl r25_29_ok ?_
      refine a_op rfl (o_mv rfl) ?_
      refine a_op rfl (o_as rfl) ?_
      refine a_nil ?_
      refine tq_n ?_
      refine awp_seq ?_
      refine awp_draw ⟨[[], [0], [], [0, 1, 2], [0, 1, 2, 3], [], [], [5, 6], [5, 6, 7], [0, 1, 2, 3, 4, 5, 6, 7, 8], [0, 1, 2, 3, 4, 5, 6, 7, 8, 9], [0, 1, 2, 3, 4, 5, 6, 7, 8, 9, 10], [0, 1, 2, 3, 4, 5, 6, 7, 8, 9, 10, 11], [0, 1, 2, 3, 4, 5, 6, 7, 8, 9, 10], [0, 1, 2, 3, 4, 5, 6, 7, 8, 9, 10, 11, 12, 13], [0, 1, 2, 3, 4, 5, 6, 7, 8, 9, 10, 11, 12, 13, 14], [0, 1, 2, 3, 4, 5, 6, 7, 8, 9, 10], [0, 1, 2, 3, 4, 5, 6, 7, 8, 9, 10], [0, 1, 2, 3, 4, 5, 6, 7, 8, 9, 10, 16, 17], [0, 1, 2, 3, 4, 5, 6, 7, 8, 9, 10, 16, 17, 18], [0, 1, 2, 3, 4, 5, 6, 7, 8, 9, 10, 11, 12, 13, 14, 15, 16, 17, 18, 19], [0, 1, 2, 3, 4, 5, 6, 7, 8, 9, 10, 11, 12, 13, 14, 15, 16, 17, 18, 19, 20]], [[1], [158], [12], [159, 160], [161], [8], [12], [163, 164], [165], [162, 166], [167], [1, 168], [168, 169], [12, 168], [168, 170, 171], [168, 172], [9, 168], [12, 168], [168, 174, 175], [168, 176], [168, 173, 177], [168, 178]], [[], [0], [], [], [], [], [], [1], [1], [], [], [], [0], [], [], [], [], [], [2], [2], [], []], [none, none, none, none, none, none, none, none, none, none, none, none, none, none, none, none, none, none, none, none, none, none]⟩ mo r25_30_ok (by decide +kernel) (l := r25_30.toList) rfl ?_
      refine d_op rfl rfl rfl (fun _ => (by first | exact o_fa tf51_2 rfl rfl | exact o_fap tf51_2 rfl rfl)) ?_
      refine d_op rfl rfl rfl (fun _ => (by first | exact o_ld tg34 rfl rfl | exact o_ldp tg34 rfl rfl rfl rfl)) ?_
      refine d_op rfl rfl rfl (fun _ => o_mv rfl) ?_
      refine d_op rfl rfl rfl (fun _ => o_ix te34 tn3 rfl rfl rfl (ixm _ _ _ hjf)) ?_
      refine d_op rfl rfl rfl (fun _ => (by first | exact o_ld tg3 rfl rfl | exact o_ldp tg3 rfl rfl rfl rfl)) ?_
      refine d_op rfl rfl rfl (fun _ => o_mv rfl) ?_
      refine d_op rfl rfl rfl (fun _ => o_mv rfl) ?_
      refine d_op rfl rfl rfl (fun _ => o_ixo (j := j) te34 tn3 rfl rfl rfl rfl hjc) ?_
      refine d_op rfl rfl rfl (fun _ => o_ldp (el := intAV (loadS p.caps.length (·.fst) p.seats p.seats.length)[j]) tg3 rfl rfl hatF rfl) ?_
      refine d_if rfl rfl rfl (fun _ => o_ne rfl rfl) (fun h29 => ?_) (fun h30 => ?_)
      · refine d_op rfl rfl rfl (fun _ => o_mv rfl) ?_
        refine d_off rfl rfl ?_
        refine d_off rfl rfl ?_
        refine d_off rfl rfl ?_
        refine d_off rfl rfl ?_
        refine d_off rfl rfl ?_
        refine d_off rfl rfl ?_
        refine d_off rfl rfl ?_
        refine d_off rfl rfl ?_
        refine d_off rfl rfl ?_
        refine d_off rfl rfl ?_
        refine d_op rfl rfl rfl (fun _ => o_pkt rfl rfl) ?_
        refine d_nil ?_
        refine tq_n ?_
        refine w_true rfl ?_
        refine awp_seq ?_
        refine w_reg (l := r25_31.toList) rfl r25_31_ok ?_
        refine a_op rfl (o_mv rfl) ?_
        refine a_op rfl (o_as rfl) ?_
        refine a_op rfl (o_as rfl) ?_
        refine a_nil ?_
        refine tq_n ?_
        refine awp_ret ?_
        refine bq_r ?_
        refine tq_r ?_
        refine tq_r ?_
        refine bq_r ?_
        refine tq_r ?_
        refine r_tup (xs := []) rfl ⟨rfl, rfl, trivial⟩ ?_
        have hx : fxI (badSeat p.caps.length p.seats) p.seats.length = -1 := fxI_none (by rw [show i = p.seats.length by omega] at hq; exact hq)
        have hy := fxI_hit hjc hq2 (by simp only [badLoad, getDg hjf, getDg hjs, getDg hF1, getDg hF2]; simp [*])
        have hr : checkF p = (((j : Nat) : Int), 283) := by rw [checkF, if_neg (by simp [*]), if_neg (by omega), if_neg (by omega), hx, if_neg (by omega), if_neg (by omega), hy, if_pos (by omega)]
        exact rs_tup ⟨rs_int (by rw [hr]), rs_int (by rw [hr]), trivial⟩
      refine d_op rfl rfl rfl (fun _ => o_mv rfl) ?_
      refine d_op rfl rfl rfl (fun _ => (by first | exact o_fa tf51_3 rfl rfl | exact o_fap tf51_3 rfl rfl)) ?_
      refine d_op rfl rfl rfl (fun _ => (by first | exact o_ld tg34 rfl rfl | exact o_ldp tg34 rfl rfl rfl rfl)) ?_
      refine d_op rfl rfl rfl (fun _ => o_mv rfl) ?_
      refine d_op rfl rfl rfl (fun _ => o_ix te34 tn3 rfl rfl rfl (ixm _ _ _ hjs)) ?_
      refine d_op rfl rfl rfl (fun _ => (by first | exact o_ld tg3 rfl rfl | exact o_ldp tg3 rfl rfl rfl rfl)) ?_
      refine d_op rfl rfl rfl (fun _ => o_mv rfl) ?_
      refine d_op rfl rfl rfl (fun _ => o_mv rfl) ?_
      refine d_op rfl rfl rfl (fun _ => o_ixo (j := j) te34 tn3 rfl rfl rfl rfl hjc) ?_
      refine d_op rfl rfl rfl (fun _ => o_ldp (el := intAV (loadS p.caps.length (·.snd) p.seats p.seats.length)[j]) tg3 rfl rfl hatS rfl) ?_
      refine d_if rfl rfl rfl (fun _ => o_ne rfl rfl) (fun h31 => ?_) (fun h32 => ?_)
      · refine d_op rfl rfl rfl (fun _ => o_pkf rfl rfl) ?_
        refine d_nil ?_
        refine tq_n ?_
        refine w_true rfl ?_
        refine awp_seq ?_
        refine w_reg (l := r25_31.toList) rfl r25_31_ok ?_
        refine a_op rfl (o_mv rfl) ?_
        refine a_op rfl (o_as rfl) ?_
        refine a_op rfl (o_as rfl) ?_
        refine a_nil ?_
        refine tq_n ?_
        refine awp_ret ?_
        refine bq_r ?_
        refine tq_r ?_
        refine tq_r ?_
        refine bq_r ?_
        refine tq_r ?_
        refine r_tup (xs := []) rfl ⟨rfl, rfl, trivial⟩ ?_
        have hx : fxI (badSeat p.caps.length p.seats) p.seats.length = -1 := fxI_none (by rw [show i = p.seats.length by omega] at hq; exact hq)
        have hy := fxI_hit hjc hq2 (by simp only [badLoad, getDg hjf, getDg hjs, getDg hF1, getDg hF2]; simp [*])
        have hr : checkF p = (((j : Nat) : Int), 283) := by rw [checkF, if_neg (by simp [*]), if_neg (by omega), if_neg (by omega), hx, if_neg (by omega), if_neg (by omega), hy, if_pos (by omega)]
        exact rs_tup ⟨rs_int (by rw [hr]), rs_int (by rw [hr]), trivial⟩
      refine d_op rfl rfl rfl (fun _ => o_pkf rfl rfl) ?_
      refine d_nil ?_
      refine tq_n ?_
      refine w_false rfl ?_
      refine awp_skip ?_
      refine bq_n ?_
      refine tq_n ?_
      refine w_reg (l := r25_32.toList) rfl r25_32_ok ?_
      refine a_op rfl (o_add rfl rfl (by simp only [klo, khi]; omega)) ?_
      refine a_op rfl (o_mv rfl) ?_
      refine a_nil ?_
      refine tq_n ?_
      exact ⟨j + 1, ⟨⟨by omega, all_succ hq2 (by simp only [badLoad, getDg hjf, getDg hjs, getDg hF1, getDg hF2]; simp [*])⟩, by omega⟩, ⟨(by first | exact sub_int rfl (by omega) | rfl), (by first | exact sub_int rfl (by omega) | rfl), (by first | exact sub_int rfl (by omega) | rfl), (by first | exact sub_int rfl (by omega) | rfl), (by first | exact sub_int rfl (by omega) | rfl), trivial⟩, rfl⟩
    refine a_nil ?_
    refine tq_n ?_
    refine awp_seq ?_
    refine w_false rfl ?_
    refine awp_exit ?_
    refine tq_x ?_
    refine tq_x ?_
    refine bq_hit ?_
    refine tq_n ?_
    refine awp_seq ?_
    refine awp_seq ?_
    refine w_reg (l := r25_33.toList) rfl r25_33_ok ?_
    refine a_op rfl ((by first | exact o_fa tf51_0 rfl rfl | exact o_fap tf51_0 rfl rfl)) ?_
    refine a_op rfl ((by first | exact o_ld tg34 rfl rfl | exact o_ldp tg34 rfl rfl rfl rfl)) ?_
    refine a_op rfl (o_len rfl rfl (by first | exact List.length_map .. | rfl) tl34) ?_
    refine a_op rfl (o_mv rfl) ?_
    refine a_nil ?_
    refine tq_n ?_
    refine awp_block ?_
    refine w_loop (fun k : Nat => k ≤ p.caps.length ∧ ∀ q, q < k → badFull p q = false) (fun k => [(1, .ptr 0 0), (8, .slo 1 1 0 p.caps.length), (9, .slo 2 1 0 p.caps.length), (183, .sl 1 b.b0 (p.caps.map intAV)), (184, .raw (.int .i64 ((p.caps.length : Nat) : Int))), (185, .raw (.int .i64 ((k : Nat) : Int)))]) (fun _ => [.var (planC b p), .vec 1 1 ((loadS p.caps.length (·.fst) p.seats p.seats.length).map intAV), .vec 1 1 ((loadS p.caps.length (·.snd) p.seats p.seats.length).map intAV)]) (fun k => p.caps.length - k) (0) ⟨by simp, by simp⟩ ⟨(by first | exact sub_int rfl (by omega) | rfl), (by first | exact sub_int rfl (by omega) | rfl), (by first | exact sub_int rfl (by omega) | rfl), (by first | exact sub_int rfl (by omega) | rfl), (by first | exact sub_int rfl (by omega) | rfl), (by first | exact sub_int rfl (by omega) | rfl), trivial⟩ rfl ?_
    intro k ⟨hp3, hq3⟩
    unfold b25_3
    refine awp_seq ?_
    refine w_reg (l := r25_34.toList) rfl r25_34_ok ?_
    refine a_if rfl (o_lt rfl rfl) (fun h33 => ?_) (fun h34 => ?_)
    · refine a_nil ?_
      refine tq_n ?_
      refine awp_seq ?_
      refine w_true rfl ?_
      refine awp_skip ?_
      refine tq_n ?_
      refine awp_seq ?_
      refine awp_block ?_
      refine awp_seq ?_
      have hjc : k < p.caps.length := by omega
      have hF1 : k < (loadS p.caps.length (·.fst) p.seats p.seats.length).length := by omega
      have hF2 : k < (loadS p.caps.length (·.snd) p.seats p.seats.length).length := by omega
      have hatF : ((loadS p.caps.length (·.fst) p.seats p.seats.length).map intAV)[0 + k]? = some (intAV (loadS p.caps.length (·.fst) p.seats p.seats.length)[k]) := by rw [Nat.zero_add]; exact mAt hF1
      have hatS : ((loadS p.caps.length (·.snd) p.seats p.seats.length).map intAV)[0 + k]? = some (intAV (loadS p.caps.length (·.snd) p.seats p.seats.length)[k]) := by rw [Nat.zero_add]; exact mAt hF2
      refine w_reg (l := r25_35.toList) rfl r25_35_ok ?_
      refine a_op rfl (o_mv rfl) ?_
      refine a_op rfl (o_ix te34 tn3 rfl rfl rfl (ixm _ _ _ hjc)) ?_
      refine a_op rfl ((by first | exact o_ld tg3 rfl rfl | exact o_ldp tg3 rfl rfl rfl rfl)) ?_
      refine a_op rfl (o_as rfl) ?_
      refine a_op rfl (o_as rfl) ?_
      refine a_nil ?_
      refine tq_n ?_
      refine awp_seq ?_
      refine awp_draw ⟨[[], [], [0, 1], [0, 1, 2], [], [], [4, 5], [4, 5, 6], [0, 1, 2, 3, 4, 5, 6, 7], [], [0, 1, 2, 3, 4, 5, 6, 7, 8, 9]], [[8], [13], [190, 191], [192], [9], [13], [194, 195], [196], [193, 197], [14], [198, 199]], [[], [], [1], [1], [], [], [2], [2], [], [], []], [none, none, none, none, none, none, none, none, none, none, none]⟩ mo r25_36_ok (by decide +kernel) (l := r25_36.toList) rfl ?_
      refine d_op rfl rfl rfl (fun _ => o_mv rfl) ?_
      refine d_op rfl rfl rfl (fun _ => o_mv rfl) ?_
      refine d_op rfl rfl rfl (fun _ => o_ixo (j := k) te34 tn3 rfl rfl rfl rfl hjc) ?_
      refine d_op rfl rfl rfl (fun _ => o_ldp (el := intAV (loadS p.caps.length (·.fst) p.seats p.seats.length)[k]) tg3 rfl rfl hatF rfl) ?_
      refine d_op rfl rfl rfl (fun _ => o_mv rfl) ?_
      refine d_op rfl rfl rfl (fun _ => o_mv rfl) ?_
      refine d_op rfl rfl rfl (fun _ => o_ixo (j := k) te34 tn3 rfl rfl rfl rfl hjc) ?_
      refine d_op rfl rfl rfl (fun _ => o_ldp (el := intAV (loadS p.caps.length (·.snd) p.seats p.seats.length)[k]) tg3 rfl rfl hatS rfl) ?_
      refine d_op rfl rfl rfl (fun _ => o_max rfl rfl) ?_
      refine d_op rfl rfl rfl (fun _ => o_mv rfl) ?_
      refine d_if rfl rfl rfl (fun _ => o_gt rfl rfl) (fun h35 => ?_) (fun h36 => ?_)
      · refine d_nil ?_
        refine tq_n ?_
        refine w_true rfl ?_
        refine awp_seq ?_
        refine w_reg (l := r25_37.toList) rfl r25_37_ok ?_
        refine a_op rfl (o_mv rfl) ?_
        refine a_op rfl (o_as rfl) ?_
        refine a_op rfl (o_as rfl) ?_
        refine a_nil ?_
        refine tq_n ?_
        refine awp_ret ?_
        refine bq_r ?_
        refine tq_r ?_
        refine tq_r ?_
        refine bq_r ?_
        refine tq_r ?_
        refine r_tup (xs := []) rfl ⟨rfl, rfl, trivial⟩ ?_
        have hx : fxI (badSeat p.caps.length p.seats) p.seats.length = -1 := fxI_none (by rw [show i = p.seats.length by omega] at hq; exact hq)
        have hy : fxI (badLoad p) p.caps.length = -1 := fxI_none (by rw [show j = p.caps.length by omega] at hq2; exact hq2)
        have hz := fxI_hit hjc hq3 (by simp only [badFull, getDg hjc, getDg hF1, getDg hF2, decide_eq_true_eq]; omega)
        have hr : checkF p = (((k : Nat) : Int), 4) := by rw [checkF, if_neg (by simp [*]), if_neg (by omega), if_neg (by omega), hx, if_neg (by omega), if_neg (by omega), hy, if_neg (by omega), hz, if_pos (by omega)]
        exact rs_tup ⟨rs_int (by rw [hr]), rs_int (by rw [hr]), trivial⟩
      refine d_nil ?_
      refine tq_n ?_
      refine w_false rfl ?_
      refine awp_skip ?_
      refine bq_n ?_
      refine tq_n ?_
      refine w_reg (l := r25_38.toList) rfl r25_38_ok ?_
      refine a_op rfl (o_add rfl rfl (by simp only [klo, khi]; omega)) ?_
      refine a_op rfl (o_mv rfl) ?_
      refine a_nil ?_
      refine tq_n ?_
      exact ⟨k + 1, ⟨⟨by omega, all_succ hq3 (by simp only [badFull, getDg hjc, getDg hF1, getDg hF2, decide_eq_false_iff_not]; omega)⟩, by omega⟩, ⟨(by first | exact sub_int rfl (by omega) | rfl), (by first | exact sub_int rfl (by omega) | rfl), (by first | exact sub_int rfl (by omega) | rfl), (by first | exact sub_int rfl (by omega) | rfl), (by first | exact sub_int rfl (by omega) | rfl), (by first | exact sub_int rfl (by omega) | rfl), trivial⟩, rfl⟩
    refine a_nil ?_
    refine tq_n ?_
    refine awp_seq ?_
    refine w_false rfl ?_
    refine awp_exit ?_
    refine tq_x ?_
    refine tq_x ?_
    refine bq_hit ?_
    refine tq_n ?_
    refine awp_seq ?_
    refine w_reg (l := r25_39.toList) rfl r25_39_ok ?_
    refine a_op rfl (o_as rfl) ?_
    refine a_op rfl (o_as rfl) ?_
    refine a_nil ?_
    refine tq_n ?_
    refine awp_ret ?_
    refine r_tup (xs := []) rfl ⟨rfl, rfl, trivial⟩ ?_
    have hx : fxI (badSeat p.caps.length p.seats) p.seats.length = -1 := fxI_none (by rw [show i = p.seats.length by omega] at hq; exact hq)
    have hy : fxI (badLoad p) p.caps.length = -1 := fxI_none (by rw [show j = p.caps.length by omega] at hq2; exact hq2)
    have hz : fxI (badFull p) p.caps.length = -1 := fxI_none (by rw [show k = p.caps.length by omega] at hq3; exact hq3)
    have hr : checkF p = (0, 0) := by rw [checkF, if_neg (by simp [*]), if_neg (by omega), if_neg (by omega), hx, if_neg (by omega), if_neg (by omega), hy, if_neg (by omega), hz, if_neg (by omega)]
    exact rs_tup ⟨rs_int (by rw [hr]), rs_int (by rw [hr]), trivial⟩
  refine a_op rfl (o_ntf rfl) ?_
  refine a_nil ?_
  refine tq_n ?_
  refine w_true rfl ?_
  refine awp_seq ?_
  refine w_reg (l := r25_2.toList) rfl r25_2_ok ?_
  refine a_op rfl (o_as rfl) ?_
  refine a_op rfl (o_as rfl) ?_
  refine a_nil ?_
  refine tq_n ?_
  refine awp_ret ?_
  refine tq_r ?_
  refine r_tup (xs := []) rfl ⟨rfl, rfl, trivial⟩ ?_
  have hr : checkF p = (0, 280) := by rw [checkF, if_pos (by assumption)]
  exact rs_tup ⟨rs_int (by rw [hr]), rs_int (by rw [hr]), trivial⟩
end Go.Ab.S
