/- What functions of this program compute, and the laws of what they compute, under the bounds on lengths that each contract states. -/
import Derived.Test.YtghoaglolhdoeaaDoorD1
set_option linter.unusedSimpArgs false
set_option linter.unusedVariables false
namespace Go.Ab.D
open Go Go.Ab Go.Proofs

structure RuleR where
  pt : Int
  kind : Int
  frm : Int
  to : Int
  days : Int
def ruleAV (x : RuleR) : AV := .agg [.raw (.int .i64 x.pt), .raw (.int .u8 x.kind), .raw (.int .i64 x.frm), .raw (.int .i64 x.to), .raw (.int .u8 x.days)]
def RuleR.ok (x : RuleR) : Prop := (-9223372036854775808 ≤ x.frm ∧ x.frm ≤ 9223372036854775807) ∧ (-9223372036854775808 ≤ x.to ∧ x.to ≤ 9223372036854775807) ∧ 0 ≤ x.days ∧ x.days ≤ 255
structure PtR where
  id : Int
  town : Int
  street : Int
  number : Int
  letter : ByteArray
  unit : ByteArray
  box : Int
  seq : Int
def ptAV (p : PtR) : AV := .agg [.raw (.int .i64 p.id), .raw (.int .i64 p.town), .raw (.int .i64 p.street), .raw (.int .i64 p.number), .raw (.string p.letter), .raw (.string p.unit), .raw (.int .i64 p.box), .raw (.int .i64 p.seq)]
@[simp] theorem pur_rule (x : RuleR) : Pur (ruleAV x) ↔ True := by simp [ruleAV]
@[simp] theorem pur_ptr' (x : PtR) : Pur (ptAV x) ↔ True := by simp [ptAV]
@[simp] theorem flt_rule (x : RuleR) : Flt (ruleAV x) ↔ True := by simp [ruleAV]
@[simp] theorem flt_pt (x : PtR) : Flt (ptAV x) ↔ True := by simp [ptAV]
def ixf (n : Int) : List PtR → Int → Int
  | [], _ => -1
  | p :: t, i => if p.id = n then i else ixf n t (i + 1)
def zeroPt : PtR := ⟨0, 0, 0, 0, { data := #[] }, { data := #[] }, 0, 0⟩
def findP (pts : List PtR) (n : Int) : Option PtR := pts.find? (fun p => decide (p.id = n))
theorem ixf_spec (n : Int) : ∀ (pts : List PtR) (k : Int), (ixf n pts k = -1 ∧ findP pts n = none) ∨ ∃ (i : Nat) (h : i < pts.length), ixf n pts k = k + i ∧ findP pts n = some pts[i]
  | [], k => .inl ⟨rfl, rfl⟩
  | p :: t, k => by
    by_cases h : p.id = n
    · exact .inr ⟨0, by simp, by simp [ixf, h], by simp [findP, h]⟩
    · rcases ixf_spec n t (k + 1) with ⟨h1, h2⟩ | ⟨i, hi, h1, h2⟩
      · exact .inl ⟨by simp [ixf, h, h1], by simpa [findP, List.find?_cons, h] using h2⟩
      · exact .inr ⟨i + 1, by simpa using hi, by simp [ixf, h, h1]; omega, by simpa [findP, List.find?_cons, h] using h2⟩
theorem ixf_pos {n : Int} {pts : List PtR} (h : ixf n pts 0 ≥ 0) : ∃ (i : Nat) (h : i < pts.length), ixf n pts 0 = i ∧ findP pts n = some pts[i] := by
  rcases ixf_spec n pts 0 with ⟨h1, h2⟩ | ⟨i, hi, h1, h2⟩
  · omega
  · exact ⟨i, hi, by omega, h2⟩
theorem ixf_neg {n : Int} {pts : List PtR} (h : ¬ ixf n pts 0 ≥ 0) : findP pts n = none := by
  rcases ixf_spec n pts 0 with ⟨h1, h2⟩ | ⟨i, hi, h1, h2⟩
  · exact h2
  · omega
theorem ixf_bd (n : Int) (pts : List PtR) : ixf n pts 0 < (pts.length : Int) ∨ ixf n pts 0 = -1 := by
  rcases ixf_spec n pts 0 with ⟨h1, h2⟩ | ⟨i, hi, h1, h2⟩ <;> omega
theorem ixf_drop {n : Int} {pts : List PtR} {i : Nat} (h : i < pts.length) (hne : ¬ pts[i].id = n) : ixf n (pts.drop i) i = ixf n (pts.drop (i + 1)) (i + 1 : Nat) := by
  rw [List.drop_eq_getElem_cons h]; simp [ixf, hne]
theorem ixf_hit {n : Int} {pts : List PtR} {i : Nat} (h : i < pts.length) (hne : pts[i].id = n) : ixf n (pts.drop i) i = i := by
  rw [List.drop_eq_getElem_cons h]; simp [ixf, hne]
def wk (d : Int) : Int := if wi d 730484 = 0 then d % 7 else 0

noncomputable def r90_0 : Array Oper := opsAt Tryd.f90 [0]
theorem r90_0_ok : dstOk 6 r90_0.toList = true ∧ r90_0.toList.all (fun o => noDefer o.op) = true := by decide +kernel
noncomputable def r90_1 : Array Oper := opsAt Tryd.f90 [1, 0]
theorem r90_1_ok : dstOk 6 r90_1.toList = true ∧ r90_1.toList.all (fun o => noDefer o.op) = true := by decide +kernel
noncomputable def c90 : Code := (.seq (.region 0 r90_0 false) (.seq (.region 1 r90_1 false) .ret))
theorem body90 : Tryd.f90.body = some c90 := by kernel_rfl
theorem isNaN_ok (n : Int) : PureCall Tryd.prog GL 90 [.raw (.int .i64 n)] (.raw (.bool false)) := by
  refine pure_of_body Tryd.func90 body90 (Nat.le_of_ble_eq_true rfl) (by simp) (by simp) ?_
  refine w_keep [(0, .raw (.int .i64 n))] ⟨rfl, trivial⟩ ?_
  unfold c90
  refine awp_seq ?_
  refine w_reg (l := r90_0.toList) rfl r90_0_ok ?_
  refine a_op rfl (o_as rfl) ?_
  refine a_nil ?_
  refine tq_n ?_
  refine awp_seq ?_
  refine w_reg (l := r90_1.toList) rfl r90_1_ok ?_
  refine a_op rfl (o_mv rfl) ?_
  refine a_op rfl (o_mv rfl) ?_
  refine a_op rfl (o_ne rfl rfl) ?_
  refine a_op rfl (o_as rfl) ?_
  refine a_nil ?_
  refine tq_n ?_
  refine awp_ret ?_
  refine r_one rfl ⟨rfl, trivial⟩ ?_
  exact rs_pur (by simp) (by simp)
noncomputable def r110_0 : Array Oper := opsAt Tryd.f110 [0]
theorem r110_0_ok : dstOk 6 r110_0.toList = true ∧ r110_0.toList.all (fun o => noDefer o.op) = true := by decide +kernel
noncomputable def r110_1 : Array Oper := opsAt Tryd.f110 [1, 0]
theorem r110_1_ok : dstOk 6 r110_1.toList = true ∧ r110_1.toList.all (fun o => noDefer o.op) = true := by decide +kernel
noncomputable def c110 : Code := (.seq (.region 0 r110_0 false) (.seq (.region 1 r110_1 false) .ret))
theorem body110 : Tryd.f110.body = some c110 := by kernel_rfl
theorem cmpNaN_ok (n : Int) : PureCall Tryd.prog GL 110 [.raw (.int .i64 n)] (.raw (.bool false)) := by
  refine pure_of_body Tryd.func110 body110 (Nat.le_of_ble_eq_true rfl) (by simp) (by simp) ?_
  refine w_keep [(0, .raw (.int .i64 n))] ⟨rfl, trivial⟩ ?_
  unfold c110
  refine awp_seq ?_
  refine w_reg (l := r110_0.toList) rfl r110_0_ok ?_
  refine a_op rfl (o_as rfl) ?_
  refine a_nil ?_
  refine tq_n ?_
  refine awp_seq ?_
  refine w_reg (l := r110_1.toList) rfl r110_1_ok ?_
  refine a_op rfl (o_mv rfl) ?_
  refine a_op rfl (o_mv rfl) ?_
  refine a_op rfl (o_ne rfl rfl) ?_
  refine a_op rfl (o_as rfl) ?_
  refine a_nil ?_
  refine tq_n ?_
  refine awp_ret ?_
  refine r_one rfl ⟨rfl, trivial⟩ ?_
  exact rs_pur (by simp) (by simp)
noncomputable def r89_0 : Array Oper := opsAt Tryd.f89 [0]
theorem r89_0_ok : dstOk 17 r89_0.toList = true ∧ r89_0.toList.all (fun o => noDefer o.op) = true := by decide +kernel
noncomputable def r89_1 : Array Oper := opsAt Tryd.f89 [1, 0]
theorem r89_1_ok : dstOk 17 r89_1.toList = true ∧ r89_1.toList.all (fun o => noDefer o.op) = true := by decide +kernel
noncomputable def c89 : Code := (.seq (.region 0 r89_0 false) (.seq (.region 1 r89_1 false) .ret))
theorem body89 : Tryd.f89.body = some c89 := by kernel_rfl
theorem less_ok (m n : Int) : PureCall Tryd.prog GL 89 [.raw (.int .i64 m), .raw (.int .i64 n)] (.raw (.bool (decide (m < n)))) := by
  refine pure_of_body Tryd.func89 body89 (Nat.le_of_ble_eq_true rfl) (by simp) (by simp) ?_
  refine w_keep [(0, .raw (.int .i64 m)), (1, .raw (.int .i64 n))] ⟨rfl, rfl, trivial⟩ ?_
  unfold c89
  refine awp_seq ?_
  refine w_reg (l := r89_0.toList) rfl r89_0_ok ?_
  refine a_op rfl (o_as rfl) ?_
  refine a_nil ?_
  refine tq_n ?_
  refine awp_seq ?_
  refine w_reg (l := r89_1.toList) rfl r89_1_ok ?_
  refine a_op rfl (o_mv rfl) ?_
  refine a_pureb rfl rfl rfl cb110 (cmpNaN_ok _) (fun h1 => ?_) (fun h2 => ?_)
  · cases h1
  · refine a_op rfl (o_mv rfl) ?_
    refine a_off rfl ?_
    refine a_off rfl ?_
    refine a_off rfl ?_
    refine a_op rfl (o_pkf rfl rfl) ?_
    refine a_op rfl (o_mv rfl) ?_
    refine a_op rfl (o_mv rfl) ?_
    refine a_op rfl (o_mv rfl) ?_
    refine a_op rfl (o_lt rfl rfl) ?_
    refine a_op rfl (o_pkf rfl rfl) ?_
    refine a_op rfl (o_as rfl) ?_
    refine a_nil ?_
    refine tq_n ?_
    refine awp_ret ?_
    refine r_one rfl ⟨rfl, trivial⟩ ?_
    first | exact rs_pur (by simp) rfl | simp_all
noncomputable def r57_0 : Array Oper := opsAt Tryd.f57 [0]
theorem r57_0_ok : dstOk 8 r57_0.toList = true ∧ r57_0.toList.all (fun o => noDefer o.op) = true := by decide +kernel
noncomputable def r57_1 : Array Oper := opsAt Tryd.f57 [1, 0]
theorem r57_1_ok : dstOk 8 r57_1.toList = true ∧ r57_1.toList.all (fun o => noDefer o.op) = true := by decide +kernel
noncomputable def c57 : Code := (.seq (.region 0 r57_0 false) (.seq (.region 1 r57_1 false) .ret))
theorem body57 : Tryd.f57.body = some c57 := by kernel_rfl
theorem pid_ok (p : PtR) (n : Int) : PureCall Tryd.prog GL 57 [ptAV p, .rp [.raw (.int .i64 n)]] (.raw (.bool (decide (p.id = n)))) := by
  refine pure_of_body Tryd.func57 body57 (Nat.le_of_ble_eq_true rfl) (by simp) (by simp) ?_
  refine w_keep [(0, ptAV p), (1, .rp [.raw (.int .i64 n)])] ⟨rfl, rfl, trivial⟩ ?_
  unfold c57
  refine awp_seq ?_
  refine w_reg (l := r57_0.toList) rfl r57_0_ok ?_
  refine a_op rfl (o_box (N := 0) rfl (by rfl) rfl rfl) ?_
  refine a_op rfl (o_as rfl) ?_
  refine a_nil ?_
  refine tq_n ?_
  refine awp_seq ?_
  refine w_reg (l := r57_1.toList) rfl r57_1_ok ?_
  refine a_op rfl ((by first | exact o_fa tf39_0 rfl rfl | exact o_fap tf39_0 rfl rfl)) ?_
  refine a_op rfl ((by first | exact o_ld tg3 rfl rfl | exact o_ldp tg3 rfl rfl rfl rfl)) ?_
  refine a_op rfl ((by first | exact o_ld tg3 rfl rfl | exact o_ldp tg3 rfl rfl rfl rfl)) ?_
  refine a_op rfl (o_eq rfl rfl) ?_
  refine a_op rfl (o_as rfl) ?_
  refine a_nil ?_
  refine tq_n ?_
  refine awp_ret ?_
  refine r_one rfl ⟨rfl, trivial⟩ ?_
  exact rs_pur (by simp) rfl
noncomputable def r87_0 : Array Oper := opsAt Tryd.f87 [0]
theorem r87_0_ok : dstOk 19 r87_0.toList = true ∧ r87_0.toList.all (fun o => noDefer o.op) = true := by decide +kernel
noncomputable def r87_1 : Array Oper := opsAt Tryd.f87 [1, 0, 0]
theorem r87_1_ok : dstOk 19 r87_1.toList = true ∧ r87_1.toList.all (fun o => noDefer o.op) = true := by decide +kernel
noncomputable def r87_2 : Array Oper := opsAt Tryd.f87 [1, 0, 1, 0, 0, 0]
theorem r87_2_ok : dstOk 19 r87_2.toList = true ∧ r87_2.toList.all (fun o => noDefer o.op) = true := by decide +kernel
noncomputable def r87_3 : Array Oper := opsAt Tryd.f87 [1, 0, 1, 0, 0, 1, 1, 0, 0, 0]
theorem r87_3_ok : dstOk 19 r87_3.toList = true ∧ r87_3.toList.all (fun o => noDefer o.op) = true := by decide +kernel
noncomputable def r87_4 : Array Oper := opsAt Tryd.f87 [1, 0, 1, 0, 0, 1, 1, 0, 0, 1, 0]
theorem r87_4_ok : dstOk 19 r87_4.toList = true ∧ r87_4.toList.all (fun o => noDefer o.op) = true := by decide +kernel
noncomputable def r87_5 : Array Oper := opsAt Tryd.f87 [1, 0, 1, 0, 0, 1, 1, 0, 0, 1, 1, 0, 0]
theorem r87_5_ok : dstOk 19 r87_5.toList = true ∧ r87_5.toList.all (fun o => noDefer o.op) = true := by decide +kernel
noncomputable def r87_6 : Array Oper := opsAt Tryd.f87 [1, 0, 1, 0, 0, 1, 1, 1]
theorem r87_6_ok : dstOk 19 r87_6.toList = true ∧ r87_6.toList.all (fun o => noDefer o.op) = true := by decide +kernel
noncomputable def b87_0 : Code := (.seq (.region 2 r87_2 false) (.seq (.cond (.tmp 9) .skip (.exit 0)) (.seq (.block 1 (.seq (.region 3 r87_3 false) (.seq (.region 4 r87_4 false) (.cond (.tmp 16) (.seq (.region 5 r87_5 false) .ret) .skip)))) (.region 6 r87_6 false))))
noncomputable def r87_7 : Array Oper := opsAt Tryd.f87 [1, 1, 0]
theorem r87_7_ok : dstOk 19 r87_7.toList = true ∧ r87_7.toList.all (fun o => noDefer o.op) = true := by decide +kernel
noncomputable def c87 : Code := (.seq (.region 0 r87_0 false) (.seq (.seq (.region 1 r87_1 false) (.block 0 (.loop b87_0))) (.seq (.region 7 r87_7 false) .ret)))
theorem body87 : Tryd.f87.body = some c87 := by kernel_rfl
theorem index_ok (b : Bool) (pts : List PtR) (hl : pts.length ≤ 4611686018427387904) (n : Int) : PureCall Tryd.prog GL 87 [.sl 8 b (pts.map ptAV), .fn 57 [] [.rp [.raw (.int .i64 n)]]] (.raw (.int .i64 (ixf n pts 0))) := by
  refine pure_of_body Tryd.func87 body87 (Nat.le_of_ble_eq_true rfl) (by simp) (by simp) ?_
  refine w_keep [(0, .sl 8 b (pts.map ptAV)), (1, .fn 57 [] [.rp [.raw (.int .i64 n)]])] ⟨rfl, rfl, trivial⟩ ?_
  unfold c87
  refine awp_seq ?_
  refine w_reg (l := r87_0.toList) rfl r87_0_ok ?_
  refine a_op rfl (o_as rfl) ?_
  refine a_nil ?_
  refine tq_n ?_
  refine awp_seq ?_
  refine awp_seq ?_
  refine w_reg (l := r87_1.toList) rfl r87_1_ok ?_
  refine a_op rfl (o_mv rfl) ?_
  refine a_op rfl (o_len rfl rfl (by first | exact List.length_map .. | rfl) tl28) ?_
  refine a_op rfl (o_mv rfl) ?_
  refine a_nil ?_
  refine tq_n ?_
  refine awp_block ?_
  refine w_loop (fun i : Nat => i ≤ pts.length ∧ ixf n pts 0 = ixf n (pts.drop i) (i : Int)) (fun i => [(0, .sl 8 b (pts.map ptAV)), (1, .fn 57 [] [.rp [.raw (.int .i64 n)]]), (6, .sl 8 b (pts.map ptAV)), (7, .raw (.int .i64 (pts.length : Int))), (8, .raw (.int .i64 (i : Int)))]) (fun _ => []) (fun i => pts.length - i) (0) ⟨by simp, by simp⟩ ⟨(by first | exact sub_int rfl (by omega) | rfl), (by first | exact sub_int rfl (by omega) | rfl), (by first | exact sub_int rfl (by omega) | rfl), (by first | exact sub_int rfl (by omega) | rfl), (by first | exact sub_int rfl (by omega) | rfl), trivial⟩ rfl ?_
  intro i ⟨hp1, hp2⟩
  unfold b87_0
  refine awp_seq ?_
  refine w_reg (l := r87_2.toList) rfl r87_2_ok ?_
  refine a_if rfl (o_lt rfl rfl) (fun h1 => ?_) (fun h2 => ?_)
  · refine a_nil ?_
    refine tq_n ?_
    refine awp_seq ?_
    refine w_true rfl ?_
    refine awp_skip ?_
    refine tq_n ?_
    refine awp_seq ?_
    refine awp_block ?_
    refine awp_seq ?_
    refine w_reg (l := r87_3.toList) rfl r87_3_ok ?_
    refine a_op rfl (o_mv rfl) ?_
    refine a_op rfl (o_as rfl) ?_
    refine a_nil ?_
    refine tq_n ?_
    refine awp_seq ?_
    refine w_reg (l := r87_4.toList) rfl r87_4_ok ?_
    refine a_op rfl (o_mv rfl) ?_
    refine a_op rfl (o_mv rfl) ?_
    refine a_op rfl (o_mv rfl) ?_
    refine a_op rfl (o_ix te28 tn39 rfl rfl rfl (ixm _ _ _ (by omega))) ?_
    refine a_op rfl ((by first | exact o_ldg tg39 tn39 rfl rfl | exact o_ldpg tg39 tn39 rfl rfl rfl rfl)) ?_
    refine a_pureb rfl rfl rfl cb57 (pid_ok _ _) (fun h3 => ?_) (fun h4 => ?_)
    · refine a_nil ?_
      refine tq_n ?_
      refine w_true rfl ?_
      refine awp_seq ?_
      refine w_reg (l := r87_5.toList) rfl r87_5_ok ?_
      refine a_op rfl (o_mv rfl) ?_
      refine a_op rfl (o_as rfl) ?_
      refine a_nil ?_
      refine tq_n ?_
      refine awp_ret ?_
      refine bq_r ?_
      refine tq_r ?_
      refine tq_r ?_
      refine bq_r ?_
      refine tq_r ?_
      refine r_one rfl ⟨rfl, trivial⟩ ?_
      rw [hp2, ixf_hit (n := n) (pts := pts) (i := i) (by omega) (of_decide_eq_true (by assumption))]; exact rs_pur (by simp) rfl
    · refine a_nil ?_
      refine tq_n ?_
      refine w_false rfl ?_
      refine awp_skip ?_
      refine bq_n ?_
      refine tq_n ?_
      refine w_reg (l := r87_6.toList) rfl r87_6_ok ?_
      refine a_op rfl (o_add rfl rfl (by simp only [klo, khi]; omega)) ?_
      refine a_op rfl (o_mv rfl) ?_
      refine a_nil ?_
      refine tq_n ?_
      exact ⟨i + 1, ⟨⟨by omega, hp2.trans (ixf_drop (by omega) (of_decide_eq_false (by assumption)))⟩, by omega⟩, ⟨(by first | exact sub_int rfl (by omega) | rfl), (by first | exact sub_int rfl (by omega) | rfl), (by first | exact sub_int rfl (by omega) | rfl), (by first | exact sub_int rfl (by omega) | rfl), (by first | exact sub_int rfl (by omega) | rfl), trivial⟩, rfl⟩
  · refine a_nil ?_
    refine tq_n ?_
    refine awp_seq ?_
    refine w_false rfl ?_
    refine awp_exit ?_
    refine tq_x ?_
    refine tq_x ?_
    refine bq_hit ?_
    refine tq_n ?_
    refine awp_seq ?_
    refine w_reg (l := r87_7.toList) rfl r87_7_ok ?_
    refine a_op rfl (o_as rfl) ?_
    refine a_nil ?_
    refine tq_n ?_
    refine awp_ret ?_
    refine r_one rfl ⟨rfl, trivial⟩ ?_
    rw [hp2, List.drop_of_length_le (show pts.length ≤ i by omega)]; exact rs_pur (by simp) rfl

def firstAV (pts : List PtR) (n : Int) : AV := .tup [ptAV ((findP pts n).getD zeroPt), .raw (.bool (findP pts n).isSome)]
@[simp] theorem pur_first (pts : List PtR) (n : Int) : Pur (firstAV pts n) ↔ True := by simp [firstAV]
@[simp] theorem flt_first (pts : List PtR) (n : Int) : Flt (firstAV pts n) ↔ True := by simp [firstAV]

noncomputable def r56_0 : Array Oper := opsAt Tryd.f56 [0]
theorem r56_0_ok : dstOk 18 r56_0.toList = true ∧ r56_0.toList.all (fun o => noDefer o.op) = true := by decide +kernel
noncomputable def r56_1 : Array Oper := opsAt Tryd.f56 [1, 0, 0]
theorem r56_1_ok : dstOk 18 r56_1.toList = true ∧ r56_1.toList.all (fun o => noDefer o.op) = true := by decide +kernel
noncomputable def r56_2 : Array Oper := opsAt Tryd.f56 [1, 0, 1, 0]
theorem r56_2_ok : dstOk 18 r56_2.toList = true ∧ r56_2.toList.all (fun o => noDefer o.op) = true := by decide +kernel
noncomputable def r56_3 : Array Oper := opsAt Tryd.f56 [1, 0, 1, 1, 0, 0]
theorem r56_3_ok : dstOk 18 r56_3.toList = true ∧ r56_3.toList.all (fun o => noDefer o.op) = true := by decide +kernel
noncomputable def r56_4 : Array Oper := opsAt Tryd.f56 [1, 1, 0]
theorem r56_4_ok : dstOk 18 r56_4.toList = true ∧ r56_4.toList.all (fun o => noDefer o.op) = true := by decide +kernel
noncomputable def r56_5 : Array Oper := opsAt Tryd.f56 [1, 1, 1, 0]
theorem r56_5_ok : dstOk 18 r56_5.toList = true ∧ r56_5.toList.all (fun o => noDefer o.op) = true := by decide +kernel
noncomputable def c56 : Code := (.seq (.region 0 r56_0 false) (.seq (.seq (.region 1 r56_1 false) (.seq (.region 2 r56_2 false) (.cond (.tmp 12) (.seq (.region 3 r56_3 false) .ret) .skip))) (.seq (.region 4 r56_4 false) (.seq (.region 5 r56_5 false) .ret))))
theorem body56 : Tryd.f56.body = some c56 := by kernel_rfl
theorem firstpt_ok (b : Bool) (pts : List PtR) (hl : pts.length ≤ 4611686018427387904) (n : Int) : PureCall Tryd.prog GL 56 [.sl 8 b (pts.map ptAV), .fn 57 [] [.rp [.raw (.int .i64 n)]]] (firstAV pts n) := by
  refine pure_of_body Tryd.func56 body56 (Nat.le_of_ble_eq_true rfl) (by simp) (by simp) ?_
  refine w_keep [(0, .sl 8 b (pts.map ptAV)), (1, .fn 57 [] [.rp [.raw (.int .i64 n)]])] ⟨rfl, rfl, trivial⟩ ?_
  unfold c56
  refine awp_seq ?_
  refine w_reg (l := r56_0.toList) rfl r56_0_ok ?_
  refine a_op rfl (o_al (N := 0) tz39 rfl rfl rfl) ?_
  refine a_op rfl (o_as rfl) ?_
  refine a_nil ?_
  refine tq_n ?_
  refine awp_seq ?_
  refine awp_seq ?_
  refine w_reg (l := r56_1.toList) rfl r56_1_ok ?_
  refine a_op rfl (o_mv rfl) ?_
  refine a_op rfl (o_mv rfl) ?_
  refine a_pure rfl rfl rfl cb87 (index_ok _ _ (by omega) _) ?_
  refine a_op rfl (o_as rfl) ?_
  refine a_nil ?_
  refine tq_n ?_
  refine awp_seq ?_
  refine w_reg (l := r56_2.toList) rfl r56_2_ok ?_
  refine a_op rfl (o_mv rfl) ?_
  refine a_if rfl (o_ge rfl rfl) (fun h1 => ?_) (fun h2 => ?_)
  · obtain ⟨i, hi, e1, e2⟩ := ixf_pos h1
    refine a_nil ?_
    refine tq_n ?_
    refine w_true rfl ?_
    refine awp_seq ?_
    refine w_reg (l := r56_3.toList) rfl r56_3_ok ?_
    refine a_op rfl (o_mv rfl) ?_
    refine a_op rfl (o_mv rfl) ?_
    refine a_op rfl (o_ix te28 tn39 rfl rfl e1 (ixm _ _ _ hi)) ?_
    refine a_op rfl ((by first | exact o_ldg tg39 tn39 rfl rfl | exact o_ldpg tg39 tn39 rfl rfl rfl rfl)) ?_
    refine a_op0 rfl (o_st (N := 7) tn39 rfl rfl rfl rfl rfl) ?_
    refine a_op rfl (o_as rfl) ?_
    refine a_nil ?_
    refine tq_n ?_
    refine awp_ret ?_
    refine tq_r ?_
    refine r_tup (xs := []) rfl ⟨c_ag tg39 tn39 rfl rfl, rfl, trivial⟩ ?_
    simp only [firstAV, e2]; exact rs_tup ⟨rs_pur (by simp) rfl, rs_pur (by simp) rfl, trivial⟩
  · have e2 := ixf_neg h2
    refine a_nil ?_
    refine tq_n ?_
    refine w_false rfl ?_
    refine awp_skip ?_
    refine tq_n ?_
    refine awp_seq ?_
    refine w_reg (l := r56_4.toList) rfl r56_4_ok ?_
    refine a_op rfl (o_al (N := 1) tz39 rfl rfl rfl) ?_
    refine a_nil ?_
    refine tq_n ?_
    refine awp_seq ?_
    refine w_reg (l := r56_5.toList) rfl r56_5_ok ?_
    refine a_op rfl ((by first | exact o_ldg tg39 tn39 rfl rfl | exact o_ldpg tg39 tn39 rfl rfl rfl rfl)) ?_
    refine a_op0 rfl (o_st (N := 7) tn39 rfl rfl rfl rfl rfl) ?_
    refine a_op rfl (o_as rfl) ?_
    refine a_nil ?_
    refine tq_n ?_
    refine awp_ret ?_
    refine r_tup (xs := []) rfl ⟨c_ag tg39 tn39 rfl rfl, rfl, trivial⟩ ?_
    simp only [firstAV, e2]; exact rs_tup ⟨rs_pur (by simp) rfl, rs_pur (by simp) rfl, trivial⟩

/-- What may stand in a field that is not looked at. -/
def Cel (a : AV) : Prop := Pur a ∧ ∀ H, a.good H = true
theorem cel_sl {z : Nat} {b : Bool} {es : List AV} (h : ∀ x ∈ es, Pur x) : Cel (.sl z b es) := ⟨.sl h, fun _ => rfl⟩
theorem cel_nil : Cel (.raw (.slice none 0 0)) := ⟨.raw _, fun _ => rfl⟩
def refAV (a1 a2 a3 : AV) (b : Bool) (pts : List PtR) : AV := .agg [a1, a2, a3, .sl 8 b (pts.map ptAV)]
theorem ref_good {a1 a2 a3 : AV} {b : Bool} {pts : List PtR} {H : Heap} (h1 : Cel a1) (h2 : Cel a2) (h3 : Cel a3) : (refAV a1 a2 a3 b pts).goodPart H = true := by
  simp [AV.goodPart, refAV, h1.2 H, h2.2 H, h3.2 H]; rfl
theorem pur_ref {a1 a2 a3 : AV} {b : Bool} {pts : List PtR} (h1 : Cel a1) (h2 : Cel a2) (h3 : Cel a3) : Pur (refAV a1 a2 a3 b pts) := by simp [refAV, h1.1, h2.1, h3.1]

noncomputable def r34_0 : Array Oper := opsAt Tryd.f34 [0]
theorem r34_0_ok : dstOk 12 r34_0.toList = true ∧ r34_0.toList.all (fun o => noDefer o.op) = true := by decide +kernel
noncomputable def r34_1 : Array Oper := opsAt Tryd.f34 [1, 0]
theorem r34_1_ok : dstOk 12 r34_1.toList = true ∧ r34_1.toList.all (fun o => noDefer o.op) = true := by decide +kernel
noncomputable def c34 : Code := (.seq (.region 0 r34_0 false) (.seq (.region 1 r34_1 false) .ret))
theorem body34 : Tryd.f34.body = some c34 := by kernel_rfl
theorem point_ok (a1 a2 a3 : AV) (g1 : Cel a1) (g2 : Cel a2) (g3 : Cel a3) (b : Bool) (pts : List PtR) (hl : pts.length ≤ 4611686018427387904) (n : Int) : PureCall Tryd.prog GL 34 [refAV a1 a2 a3 b pts, .raw (.int .i64 n)] (firstAV pts n) := by
  refine pure_of_body Tryd.func34 body34 (Nat.le_of_ble_eq_true rfl) (by simp [pur_ref g1 g2 g3]) (by simp) ?_
  refine w_keep [(0, refAV a1 a2 a3 b pts), (1, .raw (.int .i64 n))] ⟨rfl, rfl, trivial⟩ ?_
  unfold c34
  refine awp_seq ?_
  refine w_reg (l := r34_0.toList) rfl r34_0_ok ?_
  refine a_op rfl (o_box (N := 0) rfl (by first | exact ref_good g1 g2 g3 | rfl) rfl rfl) ?_
  refine a_op rfl (o_box (N := 1) rfl (by first | exact ref_good g1 g2 g3 | rfl) rfl rfl) ?_
  refine a_op rfl (o_al (N := 2) tz39 rfl rfl rfl) ?_
  refine a_op rfl (o_as rfl) ?_
  refine a_nil ?_
  refine tq_n ?_
  refine awp_seq ?_
  refine w_reg (l := r34_1.toList) rfl r34_1_ok ?_
  refine a_op rfl ((by first | exact o_fa tf30_3 rfl rfl | exact o_fap tf30_3 rfl rfl)) ?_
  refine a_op rfl ((by first | exact o_ld tg28 rfl rfl | exact o_ldp tg28 rfl rfl rfl rfl)) ?_
  refine a_op rfl (o_mf rfl rfl) ?_
  refine a_lend (vs' := [.sl 8 b (pts.map ptAV), .fn 57 [] [.rp [.raw (.int .i64 n)]]]) rfl rfl rfl cb56 (firstpt_ok _ _ (by omega) _) ⟨rs_pur (by simp) rfl, rs_fn trivial ⟨rs_ptr id rfl rfl ⟨rs_pur (by simp) rfl, trivial⟩, trivial⟩, trivial⟩ (by simp) ?_
  refine a_op rfl (o_ex rfl rfl) ?_
  refine a_op rfl (o_ex rfl rfl) ?_
  refine a_op0 rfl (o_st (N := 7) tn39 rfl rfl rfl rfl rfl) ?_
  refine a_op rfl (o_as rfl) ?_
  refine a_nil ?_
  refine tq_n ?_
  refine awp_ret ?_
  refine r_tup (xs := []) rfl ⟨c_ag tg39 tn39 rfl rfl, rfl, trivial⟩ ?_
  exact rs_pur (by simp) rfl
noncomputable def r60_0 : Array Oper := opsAt Tryd.f60 [0]
theorem r60_0_ok : dstOk 14 r60_0.toList = true ∧ r60_0.toList.all (fun o => noDefer o.op) = true := by decide +kernel
noncomputable def r60_1 : Array Oper := opsAt Tryd.f60 [1, 0]
theorem r60_1_ok : dstOk 14 r60_1.toList = true ∧ r60_1.toList.all (fun o => noDefer o.op) = true := by decide +kernel
noncomputable def c60 : Code := (.seq (.region 0 r60_0 false) (.seq (.region 1 r60_1 false) .ret))
theorem body60 : Tryd.f60.body = some c60 := by kernel_rfl
theorem vac_ok (x : RuleR) (day : Int) : PureCall Tryd.prog GL 60 [ruleAV x, .rp [.raw (.int .i64 day)]] (.raw (.bool (decide (day ≥ x.frm ∧ day ≤ x.to)))) := by
  refine pure_of_body Tryd.func60 body60 (Nat.le_of_ble_eq_true rfl) (by simp) (by simp) ?_
  refine w_keep [(0, ruleAV x), (1, .rp [.raw (.int .i64 day)])] ⟨rfl, rfl, trivial⟩ ?_
  unfold c60
  refine awp_seq ?_
  refine w_reg (l := r60_0.toList) rfl r60_0_ok ?_
  refine a_op rfl (o_box (N := 0) rfl (by rfl) rfl rfl) ?_
  refine a_op rfl (o_as rfl) ?_
  refine a_nil ?_
  refine tq_n ?_
  refine awp_seq ?_
  refine w_reg (l := r60_1.toList) rfl r60_1_ok ?_
  refine a_op rfl ((by first | exact o_ld tg3 rfl rfl | exact o_ldp tg3 rfl rfl rfl rfl)) ?_
  refine a_op rfl ((by first | exact o_fa tf37_2 rfl rfl | exact o_fap tf37_2 rfl rfl)) ?_
  refine a_op rfl ((by first | exact o_ld tg3 rfl rfl | exact o_ldp tg3 rfl rfl rfl rfl)) ?_
  refine a_if rfl (o_ge rfl rfl) (fun h1 => ?_) (fun h2 => ?_)
  · refine a_op rfl (o_mv rfl) ?_
    refine a_op rfl ((by first | exact o_ld tg3 rfl rfl | exact o_ldp tg3 rfl rfl rfl rfl)) ?_
    refine a_op rfl ((by first | exact o_fa tf37_3 rfl rfl | exact o_fap tf37_3 rfl rfl)) ?_
    refine a_op rfl ((by first | exact o_ld tg3 rfl rfl | exact o_ldp tg3 rfl rfl rfl rfl)) ?_
    refine a_op rfl (o_le rfl rfl) ?_
    refine a_op rfl (o_pkt rfl rfl) ?_
    refine a_op rfl (o_as rfl) ?_
    refine a_nil ?_
    refine tq_n ?_
    refine awp_ret ?_
    refine r_one rfl ⟨rfl, trivial⟩ ?_
    first | exact rs_dec (by simp only [decide_eq_true_eq, Bool.false_eq_true, false_iff, true_iff]; omega) | simp_all
  · refine a_op rfl (o_mv rfl) ?_
    refine a_off rfl ?_
    refine a_off rfl ?_
    refine a_off rfl ?_
    refine a_off rfl ?_
    refine a_op rfl (o_pkf rfl rfl) ?_
    refine a_op rfl (o_as rfl) ?_
    refine a_nil ?_
    refine tq_n ?_
    refine awp_ret ?_
    refine r_one rfl ⟨rfl, trivial⟩ ?_
    first | exact rs_dec (by simp only [decide_eq_true_eq, Bool.false_eq_true, false_iff, true_iff]; omega) | simp_all
noncomputable def r61_0 : Array Oper := opsAt Tryd.f61 [0]
theorem r61_0_ok : dstOk 16 r61_0.toList = true ∧ r61_0.toList.all (fun o => noDefer o.op) = true := by decide +kernel
noncomputable def r61_1 : Array Oper := opsAt Tryd.f61 [1, 0]
theorem r61_1_ok : dstOk 16 r61_1.toList = true ∧ r61_1.toList.all (fun o => noDefer o.op) = true := by decide +kernel
noncomputable def r61_2 : Array Oper := opsAt Tryd.f61 [1, 1, 0]
theorem r61_2_ok : dstOk 16 r61_2.toList = true ∧ r61_2.toList.all (fun o => noDefer o.op) = true := by decide +kernel
noncomputable def c61 : Code := (.seq (.region 0 r61_0 false) (.seq (.region 1 r61_1 false) (.seq (.region 2 r61_2 false) .ret)))
theorem body61 : Tryd.f61.body = some c61 := by kernel_rfl
theorem sea_ok (x : RuleR) (hx : x.ok) (day : Int) : PureCall Tryd.prog GL 61 [ruleAV x, .rp [.raw (.int .i64 day)]] (.raw (.bool (yrB day x.frm x.to))) := by
  refine pure_of_body Tryd.func61 body61 (Nat.le_of_ble_eq_true rfl) (by simp) (by simp) ?_
  refine w_keep [(0, ruleAV x), (1, .rp [.raw (.int .i64 day)])] ⟨rfl, rfl, trivial⟩ ?_
  unfold c61
  obtain ⟨hx1, hx2, hx3⟩ := hx
  refine awp_seq ?_
  refine w_reg (l := r61_0.toList) rfl r61_0_ok ?_
  refine a_op rfl (o_box (N := 0) rfl (by rfl) rfl rfl) ?_
  refine a_op rfl (o_as rfl) ?_
  refine a_nil ?_
  refine tq_n ?_
  refine awp_seq ?_
  refine w_reg (l := r61_1.toList) rfl r61_1_ok ?_
  refine a_op rfl ((by first | exact o_ld tg3 rfl rfl | exact o_ldp tg3 rfl rfl rfl rfl)) ?_
  refine a_op rfl ((by first | exact o_fa tf37_2 rfl rfl | exact o_fap tf37_2 rfl rfl)) ?_
  refine a_op rfl ((by first | exact o_ld tg3 rfl rfl | exact o_ldp tg3 rfl rfl rfl rfl)) ?_
  refine a_op rfl ((by first | exact o_fa tf37_3 rfl rfl | exact o_fap tf37_3 rfl rfl)) ?_
  refine a_op rfl ((by first | exact o_ld tg3 rfl rfl | exact o_ldp tg3 rfl rfl rfl rfl)) ?_
  refine a_pure rfl rfl rfl cb62 (yearly_ok _ _ _ (by omega) (by omega)) ?_
  refine a_op rfl (o_mv rfl) ?_
  refine a_op rfl (o_ex rfl rfl) ?_
  refine a_op rfl (o_ex rfl rfl) ?_
  refine a_op rfl (o_as rfl) ?_
  refine a_op rfl (o_as rfl) ?_
  refine a_nil ?_
  refine tq_n ?_
  refine awp_seq ?_
  refine w_reg (l := r61_2.toList) rfl r61_2_ok ?_
  refine a_op rfl (o_mv rfl) ?_
  refine a_op rfl (o_as rfl) ?_
  refine a_nil ?_
  refine tq_n ?_
  refine awp_ret ?_
  refine r_one rfl ⟨rfl, trivial⟩ ?_
  exact rs_pur (by simp) rfl

theorem shr_bd (m : Int) (h0 : 0 ≤ m) (h1 : m ≤ 255) (k : Nat) : 0 ≤ m / 2 ^ k ∧ m / 2 ^ k ≤ 255 := by
  have hp : (0 : Int) < 2 ^ k := Int.pow_pos (by decide)
  exact ⟨Int.ediv_nonneg h0 (by omega), Int.le_trans (Int.ediv_le_self _ h0) h1⟩
def wkB (x : RuleR) (w : Int) : Bool := decide ((x.days / 2 ^ min w.toNat 8) % 2 = 1)
theorem bs_lo {hs : List Int} {x : Int} {m : Nat} (hp : hs.Pairwise (· < ·)) (hm : m < hs.length) (h : hs[m] < x) : ∀ k (hk : k < hs.length), k < m + 1 → hs[k] < x := fun k hk hlt => by
  rcases Nat.lt_or_ge k m with h1 | h1
  · have := (List.pairwise_iff_getElem.1 hp) k m hk hm h1; omega
  · have : k = m := by omega
    subst this; exact h
theorem bs_hi {hs : List Int} {x : Int} {m : Nat} (hp : hs.Pairwise (· < ·)) (hm : m < hs.length) (h : ¬ hs[m] < x) : ∀ k (hk : k < hs.length), m ≤ k → ¬ hs[k] < x := fun k hk hlt => by
  rcases Nat.lt_or_ge m k with h1 | h1
  · have := (List.pairwise_iff_getElem.1 hp) m k hm hk h1; omega
  · have : k = m := by omega
    subst this; exact h
theorem bs_mem {hs : List Int} {x : Int} {l : Nat} (hp : hs.Pairwise (· < ·)) (h1 : ∀ k (hk : k < hs.length), k < l → hs[k] < x) (h2 : ∀ k (hk : k < hs.length), l ≤ k → ¬ hs[k] < x) : x ∈ hs ↔ ∃ h : l < hs.length, hs[l] = x := by
  constructor
  · intro hx
    obtain ⟨k, hk, e⟩ := List.getElem_of_mem hx
    rcases Nat.lt_or_ge k l with h | h
    · have := h1 k hk h; omega
    · have hl : l < hs.length := by omega
      refine ⟨hl, ?_⟩
      rcases Nat.lt_or_ge l k with h3 | h3
      · have := (List.pairwise_iff_getElem.1 hp) l k hl hk h3
        have := h2 l hl (Nat.le_refl _); omega
      · have : k = l := by omega
        subst this; exact e
  · rintro ⟨h, rfl⟩; exact List.getElem_mem h

noncomputable def r63_0 : Array Oper := opsAt Tryd.f63 [0]
theorem r63_0_ok : dstOk 10 r63_0.toList = true ∧ r63_0.toList.all (fun o => noDefer o.op) = true := by decide +kernel
noncomputable def r63_1 : Array Oper := opsAt Tryd.f63 [1, 0]
theorem r63_1_ok : dstOk 10 r63_1.toList = true ∧ r63_1.toList.all (fun o => noDefer o.op) = true := by decide +kernel
noncomputable def c63 : Code := (.seq (.region 0 r63_0 false) (.seq (.region 1 r63_1 false) .ret))
theorem body63 : Tryd.f63.body = some c63 := by kernel_rfl
theorem wkb_ok (x : RuleR) (hx : x.ok) (w : Int) (hw : 0 ≤ w) : PureCall Tryd.prog GL 63 [ruleAV x, .rp [.raw (.int .i64 w)]] (.raw (.bool (wkB x w))) := by
  refine pure_of_body Tryd.func63 body63 (Nat.le_of_ble_eq_true rfl) (by simp) (by simp) ?_
  refine w_keep [(0, ruleAV x), (1, .rp [.raw (.int .i64 w)])] ⟨rfl, rfl, trivial⟩ ?_
  unfold c63
  obtain ⟨hx1, hx2, hx3⟩ := hx
  have hsb := shr_bd x.days (by omega) (by omega) (min w.toNat IntKind.u8.bits)
  refine awp_seq ?_
  refine w_reg (l := r63_0.toList) rfl r63_0_ok ?_
  refine a_op rfl (o_box (N := 0) rfl (by rfl) rfl rfl) ?_
  refine a_op rfl (o_as rfl) ?_
  refine a_nil ?_
  refine tq_n ?_
  refine awp_seq ?_
  refine w_reg (l := r63_1.toList) rfl r63_1_ok ?_
  refine a_op rfl ((by first | exact o_fa tf37_4 rfl rfl | exact o_fap tf37_4 rfl rfl)) ?_
  refine a_op rfl ((by first | exact o_ld tg5 rfl rfl | exact o_ldp tg5 rfl rfl rfl rfl)) ?_
  refine a_op rfl ((by first | exact o_ld tg3 rfl rfl | exact o_ldp tg3 rfl rfl rfl rfl)) ?_
  refine a_op rfl (o_shr rfl rfl (by omega)) ?_
  refine a_op rfl (o_and1 rfl rfl hsb.1 hsb.2) ?_
  refine a_op rfl (o_eq rfl rfl) ?_
  refine a_op rfl (o_as rfl) ?_
  refine a_nil ?_
  refine tq_n ?_
  refine awp_ret ?_
  refine r_one rfl ⟨rfl, trivial⟩ ?_
  exact rs_pur (by simp) rfl
noncomputable def r64_0 : Array Oper := opsAt Tryd.f64 [0]
theorem r64_0_ok : dstOk 54 r64_0.toList = true ∧ r64_0.toList.all (fun o => noDefer o.op) = true := by decide +kernel
noncomputable def r64_1 : Array Oper := opsAt Tryd.f64 [1, 0]
theorem r64_1_ok : dstOk 54 r64_1.toList = true ∧ r64_1.toList.all (fun o => noDefer o.op) = true := by decide +kernel
noncomputable def r64_2 : Array Oper := opsAt Tryd.f64 [1, 1, 0]
theorem r64_2_ok : dstOk 54 r64_2.toList = true ∧ r64_2.toList.all (fun o => noDefer o.op) = true := by decide +kernel
noncomputable def r64_3 : Array Oper := opsAt Tryd.f64 [1, 1, 1, 0, 0, 0, 0, 0]
theorem r64_3_ok : dstOk 54 r64_3.toList = true ∧ r64_3.toList.all (fun o => noDefer o.op) = true := by decide +kernel
noncomputable def r64_4 : Array Oper := opsAt Tryd.f64 [1, 1, 1, 0, 0, 0, 1, 0, 0]
theorem r64_4_ok : dstOk 54 r64_4.toList = true ∧ r64_4.toList.all (fun o => noDefer o.op) = true := by decide +kernel
noncomputable def r64_5 : Array Oper := opsAt Tryd.f64 [1, 1, 1, 0, 0, 0, 1, 0, 1, 0]
theorem r64_5_ok : dstOk 54 r64_5.toList = true ∧ r64_5.toList.all (fun o => noDefer o.op) = true := by decide +kernel
noncomputable def r64_6 : Array Oper := opsAt Tryd.f64 [1, 1, 1, 0, 0, 0, 1, 0, 1, 1, 0]
theorem r64_6_ok : dstOk 54 r64_6.toList = true ∧ r64_6.toList.all (fun o => noDefer o.op) = true := by decide +kernel
noncomputable def r64_7 : Array Oper := opsAt Tryd.f64 [1, 1, 1, 0, 0, 0, 1, 0, 1, 1, 1]
theorem r64_7_ok : dstOk 54 r64_7.toList = true ∧ r64_7.toList.all (fun o => noDefer o.op) = true := by decide +kernel
noncomputable def b64_0 : Code := (.seq (.seq (.region 3 r64_3 false) (.cond (.tmp 15) .skip (.exit 0))) (.block 1 (.seq (.region 4 r64_4 false) (.seq (.region 5 r64_5 false) (.cond (.tmp 27) (.region 6 r64_6 false) (.region 7 r64_7 false))))))
noncomputable def r64_8 : Array Oper := opsAt Tryd.f64 [1, 1, 1, 1, 0]
theorem r64_8_ok : dstOk 54 r64_8.toList = true ∧ r64_8.toList.all (fun o => noDefer o.op) = true := by decide +kernel
noncomputable def c64 : Code := (.seq (.region 0 r64_0 false) (.seq (.region 1 r64_1 false) (.seq (.region 2 r64_2 false) (.seq (.block 0 (.loop b64_0)) (.seq (.region 8 r64_8 false) .ret)))))
theorem body64 : Tryd.f64.body = some c64 := by kernel_rfl
theorem bsearch_ok (b : Bool) (hs : List Int) (hl : hs.length ≤ 4611686018427387904) (hp : hs.Pairwise (· < ·)) (x : Int) : PureCall Tryd.prog GL 64 [.sl 1 b (hs.map intAV), .raw (.int .i64 x)] (.tup [.any, .raw (.bool (decide (x ∈ hs)))]) := by
  refine pure_of_body Tryd.func64 body64 (Nat.le_of_ble_eq_true rfl) (by simp) (by simp) ?_
  refine w_keep [(0, .sl 1 b (hs.map intAV)), (1, .raw (.int .i64 x))] ⟨rfl, rfl, trivial⟩ ?_
  unfold c64
  refine awp_seq ?_
  refine w_reg (l := r64_0.toList) rfl r64_0_ok ?_
  refine a_op rfl (o_as rfl) ?_
  refine a_op rfl (o_as rfl) ?_
  refine a_nil ?_
  refine tq_n ?_
  refine awp_seq ?_
  refine w_reg (l := r64_1.toList) rfl r64_1_ok ?_
  refine a_op rfl (o_mv rfl) ?_
  refine a_op rfl (o_len rfl rfl (by first | exact List.length_map .. | rfl) tl34) ?_
  refine a_op rfl (o_as rfl) ?_
  refine a_nil ?_
  refine tq_n ?_
  refine awp_seq ?_
  refine w_reg (l := r64_2.toList) rfl r64_2_ok ?_
  refine a_op rfl (o_mv rfl) ?_
  refine a_op rfl (o_as rfl) ?_
  refine a_op rfl (o_as rfl) ?_
  refine a_nil ?_
  refine tq_n ?_
  refine awp_seq ?_
  refine awp_block ?_
  refine w_loop (fun s : Nat × Nat => (s.1 ≤ s.2 ∧ s.2 ≤ hs.length) ∧ (∀ k (hk : k < hs.length), k < s.1 → hs[k] < x) ∧ (∀ k (hk : k < hs.length), s.2 ≤ k → ¬ hs[k] < x)) (fun s => [(0, .sl 1 b (hs.map intAV)), (1, .raw (.int .i64 x)), (6, .raw (.int .i64 (hs.length : Int))), (7, .raw (.int .i64 (s.1 : Int))), (8, .raw (.int .i64 (s.2 : Int)))]) (fun _ => []) (fun s => s.2 - s.1) ((0, hs.length)) ⟨⟨by simp, by simp⟩, by simp, fun k hk h => by dsimp only at h; omega⟩ ⟨(by first | exact sub_int rfl (by omega) | rfl), (by first | exact sub_int rfl (by omega) | rfl), (by first | exact sub_int rfl (by omega) | rfl), (by first | exact sub_int rfl (by omega) | rfl), (by first | exact sub_int rfl (by omega) | rfl), trivial⟩ rfl ?_
  intro ⟨lo, hi⟩ ⟨hp1, hp2, hp3⟩
  dsimp only at hp1 hp2 hp3 ⊢
  unfold b64_0
  refine awp_seq ?_
  refine awp_seq ?_
  refine w_reg (l := r64_3.toList) rfl r64_3_ok ?_
  refine a_op rfl (o_mv rfl) ?_
  refine a_op rfl (o_mv rfl) ?_
  refine a_if rfl (o_lt rfl rfl) (fun h1 => ?_) (fun h2 => ?_)
  · refine a_nil ?_
    refine tq_n ?_
    refine w_true rfl ?_
    refine awp_skip ?_
    refine tq_n ?_
    refine awp_block ?_
    refine awp_seq ?_
    refine w_reg (l := r64_4.toList) rfl r64_4_ok ?_
    refine a_op rfl (o_mv rfl) ?_
    refine a_op rfl (o_mv rfl) ?_
    refine a_op rfl (o_add rfl rfl (by simp only [klo, khi]; omega)) ?_
    refine a_op rfl (o_cv tk3 tk109 rfl (by simp only [klo, khi]; omega)) ?_
    refine a_op rfl (o_shr1 rfl rfl) ?_
    refine a_op rfl (o_cv tk109 tk3 rfl (by simp only [klo, khi]; omega)) ?_
    refine a_op rfl (o_as rfl) ?_
    refine a_nil ?_
    refine tq_n ?_
    refine awp_seq ?_
    refine w_reg (l := r64_5.toList) rfl r64_5_ok ?_
    refine a_op rfl (o_mv rfl) ?_
    refine a_op rfl (o_mv rfl) ?_
    refine a_op rfl (o_ix te34 tn3 rfl rfl (j := (lo + hi) / 2) (by omega) (ixm _ _ _ (by omega))) ?_
    refine a_op rfl ((by first | exact o_ld tg3 rfl rfl | exact o_ldp tg3 rfl rfl rfl rfl)) ?_
    refine a_op rfl (o_mv rfl) ?_
    refine a_pureb rfl rfl rfl cb89 (less_ok _ _) (fun h3 => ?_) (fun h4 => ?_)
    · refine a_nil ?_
      refine tq_n ?_
      refine w_true rfl ?_
      refine w_reg (l := r64_6.toList) rfl r64_6_ok ?_
      refine a_op rfl (o_mv rfl) ?_
      refine a_op rfl (o_add rfl rfl (by simp only [klo, khi]; omega)) ?_
      refine a_op rfl (o_as rfl) ?_
      refine a_nil ?_
      refine bq_n ?_
      refine tq_n ?_
      exact ⟨((lo + hi) / 2 + 1, hi), ⟨⟨by dsimp only; omega, bs_lo hp (by omega) (of_decide_eq_true (by assumption)), hp3⟩, by dsimp only; omega⟩, ⟨(by first | exact sub_int rfl (by omega) | rfl), (by first | exact sub_int rfl (by omega) | rfl), (by first | exact sub_int rfl (by omega) | rfl), (by first | exact sub_int rfl (by omega) | rfl), (by first | exact sub_int rfl (by omega) | rfl), trivial⟩, rfl⟩
    · refine a_nil ?_
      refine tq_n ?_
      refine w_false rfl ?_
      refine w_reg (l := r64_7.toList) rfl r64_7_ok ?_
      refine a_op rfl (o_mv rfl) ?_
      refine a_op rfl (o_as rfl) ?_
      refine a_nil ?_
      refine bq_n ?_
      refine tq_n ?_
      exact ⟨(lo, (lo + hi) / 2), ⟨⟨by dsimp only; omega, hp2, bs_hi hp (by omega) (of_decide_eq_false (by assumption))⟩, by dsimp only; omega⟩, ⟨(by first | exact sub_int rfl (by omega) | rfl), (by first | exact sub_int rfl (by omega) | rfl), (by first | exact sub_int rfl (by omega) | rfl), (by first | exact sub_int rfl (by omega) | rfl), (by first | exact sub_int rfl (by omega) | rfl), trivial⟩, rfl⟩
  · refine a_nil ?_
    refine tq_n ?_
    refine w_false rfl ?_
    refine awp_exit ?_
    refine tq_x ?_
    refine tq_x ?_
    refine bq_hit ?_
    refine tq_n ?_
    refine awp_seq ?_
    refine w_reg (l := r64_8.toList) rfl r64_8_ok ?_
    refine a_op rfl (o_mv rfl) ?_
    refine a_op rfl (o_mv rfl) ?_
    refine a_op rfl (o_mv rfl) ?_
    refine a_if rfl (o_lt rfl rfl) (fun h5 => ?_) (fun h6 => ?_)
    · refine a_op rfl (o_mv rfl) ?_
      refine a_op rfl (o_mv rfl) ?_
      refine a_op rfl (o_mv rfl) ?_
      refine a_op rfl (o_ix te34 tn3 rfl rfl rfl (ixm _ _ _ (by omega))) ?_
      refine a_op rfl ((by first | exact o_ld tg3 rfl rfl | exact o_ldp tg3 rfl rfl rfl rfl)) ?_
      refine a_op rfl (o_mv rfl) ?_
      refine a_if rfl (o_eq rfl rfl) (fun h7 => ?_) (fun h8 => ?_)
      · refine a_op rfl (o_mv rfl) ?_
        refine a_off rfl ?_
        refine a_off rfl ?_
        refine a_off rfl ?_
        refine a_off rfl ?_
        refine a_off rfl ?_
        refine a_off rfl ?_
        refine a_off rfl ?_
        refine a_off rfl ?_
        refine a_off rfl ?_
        refine a_op rfl (o_pkt rfl rfl) ?_
        refine a_op rfl (o_pkt rfl rfl) ?_
        refine a_op rfl (o_as rfl) ?_
        refine a_op rfl (o_as rfl) ?_
        refine a_nil ?_
        refine tq_n ?_
        refine awp_ret ?_
        refine r_tup (xs := []) rfl ⟨rfl, rfl, trivial⟩ ?_
        have hm := bs_mem hp hp2 (fun k hk h => hp3 k hk (by omega))
        exact rs_tup ⟨.any _, rs_dec (by rw [hm]; first | exact ⟨fun _ => ⟨by omega, by assumption⟩, fun _ => rfl⟩ | exact ⟨fun h => (by cases h), fun ⟨h, e⟩ => absurd e (by assumption)⟩ | exact ⟨fun h => (by cases h), fun ⟨h, e⟩ => absurd h (by omega)⟩), trivial⟩
      · refine a_op rfl (o_mv rfl) ?_
        refine a_op rfl (o_mv rfl) ?_
        refine a_op rfl (o_mv rfl) ?_
        refine a_op rfl (o_ix te34 tn3 rfl rfl rfl (ixm _ _ _ (by omega))) ?_
        refine a_op rfl ((by first | exact o_ld tg3 rfl rfl | exact o_ldp tg3 rfl rfl rfl rfl)) ?_
        refine a_pureb rfl rfl rfl cb90 (isNaN_ok _) (fun h9 => ?_) (fun h10 => ?_)
        · cases h9
        · refine a_op rfl (o_mv rfl) ?_
          refine a_off rfl ?_
          refine a_off rfl ?_
          refine a_op rfl (o_pkf rfl rfl) ?_
          refine a_op rfl (o_pkf rfl rfl) ?_
          refine a_op rfl (o_pkt rfl rfl) ?_
          refine a_op rfl (o_as rfl) ?_
          refine a_op rfl (o_as rfl) ?_
          refine a_nil ?_
          refine tq_n ?_
          refine awp_ret ?_
          refine r_tup (xs := []) rfl ⟨rfl, rfl, trivial⟩ ?_
          have hm := bs_mem hp hp2 (fun k hk h => hp3 k hk (by omega))
          exact rs_tup ⟨.any _, rs_dec (by rw [hm]; first | exact ⟨fun _ => ⟨by omega, by assumption⟩, fun _ => rfl⟩ | exact ⟨fun h => (by cases h), fun ⟨h, e⟩ => absurd e (by assumption)⟩ | exact ⟨fun h => (by cases h), fun ⟨h, e⟩ => absurd h (by omega)⟩), trivial⟩
    · refine a_op rfl (o_mv rfl) ?_
      refine a_off rfl ?_
      refine a_off rfl ?_
      refine a_off rfl ?_
      refine a_off rfl ?_
      refine a_off rfl ?_
      refine a_off rfl ?_
      refine a_off rfl ?_
      refine a_off rfl ?_
      refine a_off rfl ?_
      refine a_off rfl ?_
      refine a_off rfl ?_
      refine a_off rfl ?_
      refine a_off rfl ?_
      refine a_off rfl ?_
      refine a_off rfl ?_
      refine a_off rfl ?_
      refine a_off rfl ?_
      refine a_op rfl (o_pkf rfl rfl) ?_
      refine a_op rfl (o_as rfl) ?_
      refine a_op rfl (o_as rfl) ?_
      refine a_nil ?_
      refine tq_n ?_
      refine awp_ret ?_
      refine r_tup (xs := []) rfl ⟨rfl, rfl, trivial⟩ ?_
      have hm := bs_mem hp hp2 (fun k hk h => hp3 k hk (by omega))
      exact rs_tup ⟨.any _, rs_dec (by rw [hm]; first | exact ⟨fun _ => ⟨by omega, by assumption⟩, fun _ => rfl⟩ | exact ⟨fun h => (by cases h), fun ⟨h, e⟩ => absurd e (by assumption)⟩ | exact ⟨fun h => (by cases h), fun ⟨h, e⟩ => absurd h (by omega)⟩), trivial⟩
end Go.Ab.D
