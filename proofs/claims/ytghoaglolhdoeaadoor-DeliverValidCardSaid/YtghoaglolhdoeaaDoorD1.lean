/- What functions of this program compute, and the laws of what they compute, under the bounds on lengths that each contract states. -/
import Derived.Test.YtghoaglolhdoeaaDoorTabD
set_option linter.unusedSimpArgs false
set_option linter.unusedVariables false
namespace Go.Ab.D
open Go Go.Ab Go.Proofs

def ahead : List Value := [.int .i64 0, .int .i64 31, .int .i64 59, .int .i64 90, .int .i64 120, .int .i64 151, .int .i64 181, .int .i64 212, .int .i64 243, .int .i64 273, .int .i64 304, .int .i64 334, .int .i64 365]
def GL : List (Nat × List Value) := [(0, ahead)]

def leap (y : Int) : Bool := decide (y % 4 = 0 ∧ (y % 100 ≠ 0 ∨ y % 400 = 0))
def ah (m : Int) : Int := [0, 31, 59, 90, 120, 151, 181, 212, 243, 273, 304, 334, 365].getD (m - 1).toNat 0
theorem ah_ok (m : Int) (h1 : 1 ≤ m) (h2 : m ≤ 13) : ahead.getD (m - 1).toNat undef = .int .i64 (ah m) := by
  obtain ⟨n, rfl⟩ : ∃ n : Nat, m = n := ⟨m.toNat, by omega⟩
  match n, h1, h2 with
  | 1, _, _ | 2, _, _ | 3, _, _ | 4, _, _ | 5, _, _ | 6, _, _ | 7, _, _ | 8, _, _ | 9, _, _ | 10, _, _ | 11, _, _ | 12, _, _ | 13, _, _ => rfl
  | n + 14, _, h => exact absurd h (by omega)
theorem ah_bd (m : Int) : 0 ≤ ah m ∧ ah m ≤ 365 := by
  unfold ah
  generalize (m - 1).toNat = n
  match n with
  | 0 | 1 | 2 | 3 | 4 | 5 | 6 | 7 | 8 | 9 | 10 | 11 | 12 => decide
  | n + 13 => simp
def fst (y m : Int) : Int := ah m + if m > 2 ∧ leap y = true then 1 else 0
theorem fst_bd (y m : Int) : 0 ≤ fst y m ∧ fst y m ≤ 366 := by
  have := ah_bd m; unfold fst; split <;> omega
def dated (y m d : Int) : Bool := decide (2001 ≤ y ∧ y ≤ 4000 ∧ 1 ≤ m ∧ m ≤ 12 ∧ 1 ≤ d ∧ d ≤ fst y (m + 1) - fst y m)
def wi (n most : Int) : Int := if n < 0 then 2 else if n > most then 3 else 0

noncomputable def r67_0 : Array Oper := opsAt Tryd.f67 [0]
theorem r67_0_ok : dstOk 16 r67_0.toList = true ∧ r67_0.toList.all (fun o => noDefer o.op) = true := by decide +kernel
noncomputable def r67_1 : Array Oper := opsAt Tryd.f67 [1, 0]
theorem r67_1_ok : dstOk 16 r67_1.toList = true ∧ r67_1.toList.all (fun o => noDefer o.op) = true := by decide +kernel
noncomputable def c67 : Code := (.seq (.region 0 r67_0 false) (.seq (.region 1 r67_1 false) .ret))
theorem body67 : Tryd.f67.body = some c67 := by kernel_rfl
theorem leap_ok (y : Int) (hy : 0 ≤ y) : PureCall Tryd.prog GL 67 [.raw (.int .i64 y)] (.raw (.bool (leap y))) := by
  refine pure_of_body Tryd.func67 body67 (Nat.le_of_ble_eq_true rfl) (by simp) (by simp) ?_
  refine w_keep [(0, .raw (.int .i64 y))] ⟨rfl, trivial⟩ ?_
  unfold c67
  refine awp_seq ?_
  refine w_reg (l := r67_0.toList) rfl r67_0_ok ?_
  refine a_op rfl (o_as rfl) ?_
  refine a_nil ?_
  refine tq_n ?_
  refine awp_seq ?_
  refine w_reg (l := r67_1.toList) rfl r67_1_ok ?_
  refine a_op rfl (o_mv rfl) ?_
  refine a_op rfl (o_rem rfl rfl (by omega) (by omega)) ?_
  refine a_if rfl (o_eq rfl rfl) (fun h1 => ?_) (fun h2 => ?_)
  · refine a_op rfl (o_mv rfl) ?_
    refine a_op rfl (o_mv rfl) ?_
    refine a_op rfl (o_rem rfl rfl (by omega) (by omega)) ?_
    refine a_if rfl (o_ne rfl rfl) (fun h3 => ?_) (fun h4 => ?_)
    · refine a_op rfl (o_mv rfl) ?_
      refine a_off rfl ?_
      refine a_off rfl ?_
      refine a_off rfl ?_
      refine a_op rfl (o_pkt rfl rfl) ?_
      refine a_op rfl (o_pkt rfl rfl) ?_
      refine a_op rfl (o_as rfl) ?_
      refine a_nil ?_
      refine tq_n ?_
      refine awp_ret ?_
      refine r_one rfl ⟨rfl, trivial⟩ ?_
      exact rs_pur (by simp) (by simp [leap, *])
    · refine a_op rfl (o_mv rfl) ?_
      refine a_op rfl (o_mv rfl) ?_
      refine a_op rfl (o_rem rfl rfl (by omega) (by omega)) ?_
      refine a_op rfl (o_eq rfl rfl) ?_
      refine a_op rfl (o_pkf rfl rfl) ?_
      refine a_op rfl (o_pkt rfl rfl) ?_
      refine a_op rfl (o_as rfl) ?_
      refine a_nil ?_
      refine tq_n ?_
      refine awp_ret ?_
      refine r_one rfl ⟨rfl, trivial⟩ ?_
      exact rs_pur (by simp) (by simp [leap, *])
  · refine a_op rfl (o_mv rfl) ?_
    refine a_off rfl ?_
    refine a_off rfl ?_
    refine a_off rfl ?_
    refine a_off rfl ?_
    refine a_off rfl ?_
    refine a_off rfl ?_
    refine a_off rfl ?_
    refine a_off rfl ?_
    refine a_op rfl (o_pkf rfl rfl) ?_
    refine a_op rfl (o_as rfl) ?_
    refine a_nil ?_
    refine tq_n ?_
    refine awp_ret ?_
    refine r_one rfl ⟨rfl, trivial⟩ ?_
    exact rs_pur (by simp) (by simp [leap, *])
noncomputable def r39_0 : Array Oper := opsAt Tryd.f39 [0]
theorem r39_0_ok : dstOk 19 r39_0.toList = true ∧ r39_0.toList.all (fun o => noDefer o.op) = true := by decide +kernel
noncomputable def r39_1 : Array Oper := opsAt Tryd.f39 [1, 0]
theorem r39_1_ok : dstOk 19 r39_1.toList = true ∧ r39_1.toList.all (fun o => noDefer o.op) = true := by decide +kernel
noncomputable def r39_2 : Array Oper := opsAt Tryd.f39 [1, 1, 0, 0]
theorem r39_2_ok : dstOk 19 r39_2.toList = true ∧ r39_2.toList.all (fun o => noDefer o.op) = true := by decide +kernel
noncomputable def r39_3 : Array Oper := opsAt Tryd.f39 [1, 1, 0, 1, 0]
theorem r39_3_ok : dstOk 19 r39_3.toList = true ∧ r39_3.toList.all (fun o => noDefer o.op) = true := by decide +kernel
noncomputable def r39_4 : Array Oper := opsAt Tryd.f39 [1, 1, 1, 0]
theorem r39_4_ok : dstOk 19 r39_4.toList = true ∧ r39_4.toList.all (fun o => noDefer o.op) = true := by decide +kernel
noncomputable def c39 : Code := (.seq (.region 0 r39_0 false) (.seq (.region 1 r39_1 false) (.seq (.seq (.region 2 r39_2 false) (.cond (.tmp 15) (.region 3 r39_3 false) .skip)) (.seq (.region 4 r39_4 false) .ret))))
theorem body39 : Tryd.f39.body = some c39 := by kernel_rfl
theorem first_ok (y m : Int) (hy : 0 ≤ y) (h1 : 1 ≤ m) (h2 : m ≤ 13) : PureCall Tryd.prog GL 39 [.raw (.int .i64 y), .raw (.int .i64 m)] (.raw (.int .i64 (fst y m))) := by
  refine pure_of_body Tryd.func39 body39 (Nat.le_of_ble_eq_true rfl) (by simp) (by simp) ?_
  refine w_keep [(0, .raw (.int .i64 y)), (1, .raw (.int .i64 m))] ⟨rfl, rfl, trivial⟩ ?_
  unfold c39
  have hah := ah_bd m
  refine awp_seq ?_
  refine w_reg (l := r39_0.toList) rfl r39_0_ok ?_
  refine a_op rfl (o_as rfl) ?_
  refine a_nil ?_
  refine tq_n ?_
  refine awp_seq ?_
  refine w_reg (l := r39_1.toList) rfl r39_1_ok ?_
  refine a_op rfl (o_mv rfl) ?_
  refine a_op rfl (o_sub rfl rfl (by simp only [klo, khi]; omega)) ?_
  refine a_opg rfl (o_ixg ta110 tn3 (by simp [GL]) rfl (j := (m - 1).toNat) (by omega) (by omega) rfl (ah_ok m (by omega) (by omega))) ?_
  refine a_op rfl ((by first | exact o_ld tg3 rfl rfl | exact o_ldp tg3 rfl rfl rfl rfl)) ?_
  refine a_op rfl (o_as rfl) ?_
  refine a_nil ?_
  refine tq_n ?_
  refine awp_seq ?_
  refine awp_seq ?_
  refine w_reg (l := r39_2.toList) rfl r39_2_ok ?_
  refine a_op rfl (o_mv rfl) ?_
  refine a_if rfl (o_gt rfl rfl) (fun h1 => ?_) (fun h2 => ?_)
  · refine a_op rfl (o_mv rfl) ?_
    refine a_op rfl (o_mv rfl) ?_
    refine a_pureb rfl rfl rfl cb67 (leap_ok _ (by omega)) (fun h3 => ?_) (fun h4 => ?_)
    · refine a_op rfl (o_pkt rfl rfl) ?_
      refine a_nil ?_
      refine tq_n ?_
      refine w_true rfl ?_
      refine w_reg (l := r39_3.toList) rfl r39_3_ok ?_
      refine a_op rfl (o_mv rfl) ?_
      refine a_op rfl (o_add rfl rfl (by simp only [klo, khi]; omega)) ?_
      refine a_op rfl (o_as rfl) ?_
      refine a_nil ?_
      refine tq_n ?_
      refine awp_seq ?_
      refine w_reg (l := r39_4.toList) rfl r39_4_ok ?_
      refine a_op rfl (o_mv rfl) ?_
      refine a_op rfl (o_as rfl) ?_
      refine a_nil ?_
      refine tq_n ?_
      refine awp_ret ?_
      refine r_one rfl ⟨rfl, trivial⟩ ?_
      exact rs_pur (by simp) (by simp [fst, *])
    · refine a_op rfl (o_pkt rfl rfl) ?_
      refine a_nil ?_
      refine tq_n ?_
      refine w_false rfl ?_
      refine awp_skip ?_
      refine tq_n ?_
      refine awp_seq ?_
      refine w_reg (l := r39_4.toList) rfl r39_4_ok ?_
      refine a_op rfl (o_mv rfl) ?_
      refine a_op rfl (o_as rfl) ?_
      refine a_nil ?_
      refine tq_n ?_
      refine awp_ret ?_
      refine r_one rfl ⟨rfl, trivial⟩ ?_
      exact rs_pur (by simp) (by simp [fst, *])
  · refine a_op rfl (o_mv rfl) ?_
    refine a_off rfl ?_
    refine a_off rfl ?_
    refine a_op rfl (o_pkf rfl rfl) ?_
    refine a_nil ?_
    refine tq_n ?_
    refine w_false rfl ?_
    refine awp_skip ?_
    refine tq_n ?_
    refine awp_seq ?_
    refine w_reg (l := r39_4.toList) rfl r39_4_ok ?_
    refine a_op rfl (o_mv rfl) ?_
    refine a_op rfl (o_as rfl) ?_
    refine a_nil ?_
    refine tq_n ?_
    refine awp_ret ?_
    refine r_one rfl ⟨rfl, trivial⟩ ?_
    exact rs_pur (by simp) (by simp [fst, *])
noncomputable def r40_0 : Array Oper := opsAt Tryd.f40 [0]
theorem r40_0_ok : dstOk 37 r40_0.toList = true ∧ r40_0.toList.all (fun o => noDefer o.op) = true := by decide +kernel
noncomputable def r40_1 : Array Oper := opsAt Tryd.f40 [1, 0]
theorem r40_1_ok : dstOk 37 r40_1.toList = true ∧ r40_1.toList.all (fun o => noDefer o.op) = true := by decide +kernel
noncomputable def c40 : Code := (.seq (.region 0 r40_0 false) (.seq (.region 1 r40_1 false) .ret))
theorem body40 : Tryd.f40.body = some c40 := by kernel_rfl
theorem dated_ok (y m d : Int) : PureCall Tryd.prog GL 40 [.raw (.int .i64 y), .raw (.int .i64 m), .raw (.int .i64 d)] (.raw (.bool (dated y m d))) := by
  refine pure_of_body Tryd.func40 body40 (Nat.le_of_ble_eq_true rfl) (by simp) (by simp) ?_
  refine w_keep [(0, .raw (.int .i64 y)), (1, .raw (.int .i64 m)), (2, .raw (.int .i64 d))] ⟨rfl, rfl, rfl, trivial⟩ ?_
  unfold c40
  have hf1 := fst_bd y m; have hf2 := fst_bd y (m + 1)
  refine awp_seq ?_
  refine w_reg (l := r40_0.toList) rfl r40_0_ok ?_
  refine a_op rfl (o_as rfl) ?_
  refine a_nil ?_
  refine tq_n ?_
  refine awp_seq ?_
  refine w_reg (l := r40_1.toList) rfl r40_1_ok ?_
  refine a_op rfl (o_mv rfl) ?_
  refine a_if rfl (o_ge rfl rfl) (fun h1 => ?_) (fun h2 => ?_)
  · refine a_op rfl (o_mv rfl) ?_
    refine a_op rfl (o_mv rfl) ?_
    refine a_if rfl (o_le rfl rfl) (fun h3 => ?_) (fun h4 => ?_)
    · refine a_op rfl (o_pkt rfl rfl) ?_
      refine a_op rfl (o_mv rfl) ?_
      refine a_op rfl (o_mv rfl) ?_
      refine a_if rfl (o_ge rfl rfl) (fun h5 => ?_) (fun h6 => ?_)
      · refine a_op rfl (o_pkt rfl rfl) ?_
        refine a_op rfl (o_mv rfl) ?_
        refine a_op rfl (o_mv rfl) ?_
        refine a_if rfl (o_le rfl rfl) (fun h7 => ?_) (fun h8 => ?_)
        · refine a_op rfl (o_pkt rfl rfl) ?_
          refine a_op rfl (o_mv rfl) ?_
          refine a_op rfl (o_mv rfl) ?_
          refine a_if rfl (o_ge rfl rfl) (fun h9 => ?_) (fun h10 => ?_)
          · refine a_op rfl (o_pkt rfl rfl) ?_
            refine a_op rfl (o_mv rfl) ?_
            refine a_op rfl (o_mv rfl) ?_
            refine a_op rfl (o_mv rfl) ?_
            refine a_op rfl (o_mv rfl) ?_
            refine a_op rfl (o_add rfl rfl (by simp only [klo, khi]; omega)) ?_
            refine a_pure rfl rfl rfl cb39 (first_ok _ _ (by omega) (by omega) (by omega)) ?_
            refine a_op rfl (o_mv rfl) ?_
            refine a_op rfl (o_mv rfl) ?_
            refine a_pure rfl rfl rfl cb39 (first_ok _ _ (by omega) (by omega) (by omega)) ?_
            refine a_op rfl (o_sub rfl rfl (by simp only [klo, khi]; omega)) ?_
            refine a_op rfl (o_le rfl rfl) ?_
            refine a_op rfl (o_pkt rfl rfl) ?_
            refine a_op rfl (o_as rfl) ?_
            refine a_nil ?_
            refine tq_n ?_
            refine awp_ret ?_
            refine r_one rfl ⟨rfl, trivial⟩ ?_
            exact rs_dec (by simp only [decide_eq_true_eq, Bool.false_eq_true, false_iff, true_iff]; omega)
          · refine a_op rfl (o_pkt rfl rfl) ?_
            refine a_op rfl (o_mv rfl) ?_
            refine a_off rfl ?_
            refine a_off rfl ?_
            refine a_off rfl ?_
            refine a_off rfl ?_
            refine a_off rfl ?_
            refine a_off rfl ?_
            refine a_off rfl ?_
            refine a_off rfl ?_
            refine a_off rfl ?_
            refine a_off rfl ?_
            refine a_op rfl (o_pkf rfl rfl) ?_
            refine a_op rfl (o_as rfl) ?_
            refine a_nil ?_
            refine tq_n ?_
            refine awp_ret ?_
            refine r_one rfl ⟨rfl, trivial⟩ ?_
            exact rs_dec (by simp only [decide_eq_true_eq, Bool.false_eq_true, false_iff, true_iff]; omega)
        · refine a_op rfl (o_pkt rfl rfl) ?_
          refine a_op rfl (o_mv rfl) ?_
          refine a_off rfl ?_
          refine a_off rfl ?_
          refine a_op rfl (o_pkf rfl rfl) ?_
          refine a_op rfl (o_mv rfl) ?_
          refine a_off rfl ?_
          refine a_off rfl ?_
          refine a_off rfl ?_
          refine a_off rfl ?_
          refine a_off rfl ?_
          refine a_off rfl ?_
          refine a_off rfl ?_
          refine a_off rfl ?_
          refine a_off rfl ?_
          refine a_off rfl ?_
          refine a_op rfl (o_pkf rfl rfl) ?_
          refine a_op rfl (o_as rfl) ?_
          refine a_nil ?_
          refine tq_n ?_
          refine awp_ret ?_
          refine r_one rfl ⟨rfl, trivial⟩ ?_
          exact rs_dec (by simp only [decide_eq_true_eq, Bool.false_eq_true, false_iff, true_iff]; omega)
      · refine a_op rfl (o_pkt rfl rfl) ?_
        refine a_op rfl (o_mv rfl) ?_
        refine a_off rfl ?_
        refine a_off rfl ?_
        refine a_op rfl (o_pkf rfl rfl) ?_
        refine a_op rfl (o_mv rfl) ?_
        refine a_off rfl ?_
        refine a_off rfl ?_
        refine a_op rfl (o_pkf rfl rfl) ?_
        refine a_op rfl (o_mv rfl) ?_
        refine a_off rfl ?_
        refine a_off rfl ?_
        refine a_off rfl ?_
        refine a_off rfl ?_
        refine a_off rfl ?_
        refine a_off rfl ?_
        refine a_off rfl ?_
        refine a_off rfl ?_
        refine a_off rfl ?_
        refine a_off rfl ?_
        refine a_op rfl (o_pkf rfl rfl) ?_
        refine a_op rfl (o_as rfl) ?_
        refine a_nil ?_
        refine tq_n ?_
        refine awp_ret ?_
        refine r_one rfl ⟨rfl, trivial⟩ ?_
        exact rs_dec (by simp only [decide_eq_true_eq, Bool.false_eq_true, false_iff, true_iff]; omega)
    · refine a_op rfl (o_pkt rfl rfl) ?_
      refine a_op rfl (o_mv rfl) ?_
      refine a_off rfl ?_
      refine a_off rfl ?_
      refine a_op rfl (o_pkf rfl rfl) ?_
      refine a_op rfl (o_mv rfl) ?_
      refine a_off rfl ?_
      refine a_off rfl ?_
      refine a_op rfl (o_pkf rfl rfl) ?_
      refine a_op rfl (o_mv rfl) ?_
      refine a_off rfl ?_
      refine a_off rfl ?_
      refine a_op rfl (o_pkf rfl rfl) ?_
      refine a_op rfl (o_mv rfl) ?_
      refine a_off rfl ?_
      refine a_off rfl ?_
      refine a_off rfl ?_
      refine a_off rfl ?_
      refine a_off rfl ?_
      refine a_off rfl ?_
      refine a_off rfl ?_
      refine a_off rfl ?_
      refine a_off rfl ?_
      refine a_off rfl ?_
      refine a_op rfl (o_pkf rfl rfl) ?_
      refine a_op rfl (o_as rfl) ?_
      refine a_nil ?_
      refine tq_n ?_
      refine awp_ret ?_
      refine r_one rfl ⟨rfl, trivial⟩ ?_
      exact rs_dec (by simp only [decide_eq_true_eq, Bool.false_eq_true, false_iff, true_iff]; omega)
  · refine a_op rfl (o_mv rfl) ?_
    refine a_off rfl ?_
    refine a_off rfl ?_
    refine a_op rfl (o_pkf rfl rfl) ?_
    refine a_op rfl (o_mv rfl) ?_
    refine a_off rfl ?_
    refine a_off rfl ?_
    refine a_op rfl (o_pkf rfl rfl) ?_
    refine a_op rfl (o_mv rfl) ?_
    refine a_off rfl ?_
    refine a_off rfl ?_
    refine a_op rfl (o_pkf rfl rfl) ?_
    refine a_op rfl (o_mv rfl) ?_
    refine a_off rfl ?_
    refine a_off rfl ?_
    refine a_op rfl (o_pkf rfl rfl) ?_
    refine a_op rfl (o_mv rfl) ?_
    refine a_off rfl ?_
    refine a_off rfl ?_
    refine a_off rfl ?_
    refine a_off rfl ?_
    refine a_off rfl ?_
    refine a_off rfl ?_
    refine a_off rfl ?_
    refine a_off rfl ?_
    refine a_off rfl ?_
    refine a_off rfl ?_
    refine a_op rfl (o_pkf rfl rfl) ?_
    refine a_op rfl (o_as rfl) ?_
    refine a_nil ?_
    refine tq_n ?_
    refine awp_ret ?_
    refine r_one rfl ⟨rfl, trivial⟩ ?_
    exact rs_dec (by simp only [decide_eq_true_eq, Bool.false_eq_true, false_iff, true_iff]; omega)
noncomputable def r38_0 : Array Oper := opsAt Tryd.f38 [0]
theorem r38_0_ok : dstOk 10 r38_0.toList = true ∧ r38_0.toList.all (fun o => noDefer o.op) = true := by decide +kernel
noncomputable def r38_1 : Array Oper := opsAt Tryd.f38 [1, 0, 0]
theorem r38_1_ok : dstOk 10 r38_1.toList = true ∧ r38_1.toList.all (fun o => noDefer o.op) = true := by decide +kernel
noncomputable def r38_2 : Array Oper := opsAt Tryd.f38 [1, 0, 1, 0, 0]
theorem r38_2_ok : dstOk 10 r38_2.toList = true ∧ r38_2.toList.all (fun o => noDefer o.op) = true := by decide +kernel
noncomputable def r38_3 : Array Oper := opsAt Tryd.f38 [1, 1, 0, 0]
theorem r38_3_ok : dstOk 10 r38_3.toList = true ∧ r38_3.toList.all (fun o => noDefer o.op) = true := by decide +kernel
noncomputable def r38_4 : Array Oper := opsAt Tryd.f38 [1, 1, 0, 1, 0, 0]
theorem r38_4_ok : dstOk 10 r38_4.toList = true ∧ r38_4.toList.all (fun o => noDefer o.op) = true := by decide +kernel
noncomputable def r38_5 : Array Oper := opsAt Tryd.f38 [1, 1, 1, 0]
theorem r38_5_ok : dstOk 10 r38_5.toList = true ∧ r38_5.toList.all (fun o => noDefer o.op) = true := by decide +kernel
noncomputable def c38 : Code := (.seq (.region 0 r38_0 false) (.seq (.seq (.region 1 r38_1 false) (.cond (.tmp 6) (.seq (.region 2 r38_2 false) .ret) .skip)) (.seq (.seq (.region 3 r38_3 false) (.cond (.tmp 9) (.seq (.region 4 r38_4 false) .ret) .skip)) (.seq (.region 5 r38_5 false) .ret))))
theorem body38 : Tryd.f38.body = some c38 := by kernel_rfl
theorem within_ok (n most : Int) : PureCall Tryd.prog GL 38 [.raw (.int .i64 n), .raw (.int .i64 most)] (.raw (.int .i64 (wi n most))) := by
  refine pure_of_body Tryd.func38 body38 (Nat.le_of_ble_eq_true rfl) (by simp) (by simp) ?_
  refine w_keep [(0, .raw (.int .i64 n)), (1, .raw (.int .i64 most))] ⟨rfl, rfl, trivial⟩ ?_
  unfold c38
  refine awp_seq ?_
  refine w_reg (l := r38_0.toList) rfl r38_0_ok ?_
  refine a_op rfl (o_as rfl) ?_
  refine a_nil ?_
  refine tq_n ?_
  refine awp_seq ?_
  refine awp_seq ?_
  refine w_reg (l := r38_1.toList) rfl r38_1_ok ?_
  refine a_op rfl (o_mv rfl) ?_
  refine a_if rfl (o_lt rfl rfl) (fun h1 => ?_) (fun h2 => ?_)
  · refine a_nil ?_
    refine tq_n ?_
    refine w_true rfl ?_
    refine awp_seq ?_
    refine w_reg (l := r38_2.toList) rfl r38_2_ok ?_
    refine a_op rfl (o_as rfl) ?_
    refine a_nil ?_
    refine tq_n ?_
    refine awp_ret ?_
    refine tq_r ?_
    refine r_one rfl ⟨rfl, trivial⟩ ?_
    exact rs_pur (by simp) (by simp [wi, *])
  · refine a_nil ?_
    refine tq_n ?_
    refine w_false rfl ?_
    refine awp_skip ?_
    refine tq_n ?_
    refine awp_seq ?_
    refine awp_seq ?_
    refine w_reg (l := r38_3.toList) rfl r38_3_ok ?_
    refine a_op rfl (o_mv rfl) ?_
    refine a_op rfl (o_mv rfl) ?_
    refine a_if rfl (o_gt rfl rfl) (fun h3 => ?_) (fun h4 => ?_)
    · refine a_nil ?_
      refine tq_n ?_
      refine w_true rfl ?_
      refine awp_seq ?_
      refine w_reg (l := r38_4.toList) rfl r38_4_ok ?_
      refine a_op rfl (o_as rfl) ?_
      refine a_nil ?_
      refine tq_n ?_
      refine awp_ret ?_
      refine tq_r ?_
      refine r_one rfl ⟨rfl, trivial⟩ ?_
      exact rs_pur (by simp) (by simp [wi, *])
    · refine a_nil ?_
      refine tq_n ?_
      refine w_false rfl ?_
      refine awp_skip ?_
      refine tq_n ?_
      refine awp_seq ?_
      refine w_reg (l := r38_5.toList) rfl r38_5_ok ?_
      refine a_op rfl (o_as rfl) ?_
      refine a_nil ?_
      refine tq_n ?_
      refine awp_ret ?_
      refine r_one rfl ⟨rfl, trivial⟩ ?_
      exact rs_pur (by simp) (by simp [wi, *])

theorem wi_iff (n m : Int) : wi n m = 0 ↔ 0 ≤ n ∧ n ≤ m := by unfold wi; split <;> (try split) <;> omega
theorem dated_imp {y m d : Int} (h : dated y m d = true) : 2001 ≤ y ∧ y ≤ 4000 ∧ 1 ≤ m ∧ m ≤ 12 ∧ 1 ≤ d ∧ d ≤ fst y (m + 1) - fst y m := of_decide_eq_true h
def dayF (y m d : Int) : Int × Int := if dated y m d = true then (365 * (y - 1) + (y - 1) / 4 - (y - 1) / 100 + (y - 1) / 400 - 730485 + fst y m + d - 1, 0) else (0, 10)
def incr (last : Int) : List Int → Bool
  | [] => true
  | d :: t => !(decide (d ≤ last) || decide (d > 730484)) && incr d t
def rightF (hs : List Int) : Bool := incr (-1) hs && decide ((hs.length : Int) ≤ 1000)
theorem incr_step {hs : List Int} {i : Nat} {last : Int} (h : i < hs.length) (h1 : ¬ hs[i] ≤ last) (h2 : ¬ hs[i] > 730484) : incr last (hs.drop i) = incr hs[i] (hs.drop (i + 1)) := by
  rw [List.drop_eq_getElem_cons h]; simp only [incr, h1, h2, decide_false, Bool.or_false, Bool.not_false, Bool.true_and]
theorem incr_stop {hs : List Int} {i : Nat} {last : Int} (h : i < hs.length) (h1 : hs[i] ≤ last ∨ hs[i] > 730484) : incr last (hs.drop i) = false := by
  rw [List.drop_eq_getElem_cons h]; simp only [incr]; rcases h1 with h1 | h1 <;> simp [h1]
def wrF (hol : List Int) (day : Int) : Int := if rightF hol = true ∧ 0 ≤ day then (if day > 730484 then 3 else 0) else 2
def intAV (n : Int) : AV := .raw (.int .i64 n)
@[simp] theorem pur_int (n : Int) : Pur (intAV n) ↔ True := by simp [intAV]
@[simp] theorem pur_ints (l : List Int) : (∀ x ∈ l.map intAV, Pur x) ↔ True := by simp

noncomputable def r21_0 : Array Oper := opsAt Tryd.f21 [0]
theorem r21_0_ok : dstOk 35 r21_0.toList = true ∧ r21_0.toList.all (fun o => noDefer o.op) = true := by decide +kernel
noncomputable def r21_1 : Array Oper := opsAt Tryd.f21 [1, 0, 0]
theorem r21_1_ok : dstOk 35 r21_1.toList = true ∧ r21_1.toList.all (fun o => noDefer o.op) = true := by decide +kernel
noncomputable def r21_2 : Array Oper := opsAt Tryd.f21 [1, 0, 1, 0, 0]
theorem r21_2_ok : dstOk 35 r21_2.toList = true ∧ r21_2.toList.all (fun o => noDefer o.op) = true := by decide +kernel
noncomputable def r21_3 : Array Oper := opsAt Tryd.f21 [1, 1, 0]
theorem r21_3_ok : dstOk 35 r21_3.toList = true ∧ r21_3.toList.all (fun o => noDefer o.op) = true := by decide +kernel
noncomputable def r21_4 : Array Oper := opsAt Tryd.f21 [1, 1, 1, 0]
theorem r21_4_ok : dstOk 35 r21_4.toList = true ∧ r21_4.toList.all (fun o => noDefer o.op) = true := by decide +kernel
noncomputable def c21 : Code := (.seq (.region 0 r21_0 false) (.seq (.seq (.region 1 r21_1 false) (.cond (.tmp 13) (.seq (.region 2 r21_2 false) .ret) .skip)) (.seq (.region 3 r21_3 false) (.seq (.region 4 r21_4 false) .ret))))
theorem body21 : Tryd.f21.body = some c21 := by kernel_rfl
theorem day_ok (y m d : Int) : PureCall Tryd.prog GL 21 [.raw (.int .i64 y), .raw (.int .i64 m), .raw (.int .i64 d)] (.tup [.raw (.int .i64 (dayF y m d).1), .raw (.int .i64 (dayF y m d).2)]) := by
  refine pure_of_body Tryd.func21 body21 (Nat.le_of_ble_eq_true rfl) (by simp) (by simp) ?_
  refine w_keep [(0, .raw (.int .i64 y)), (1, .raw (.int .i64 m)), (2, .raw (.int .i64 d))] ⟨rfl, rfl, rfl, trivial⟩ ?_
  unfold c21
  have hf1 := fst_bd y m; have hf2 := fst_bd y (m + 1)
  refine awp_seq ?_
  refine w_reg (l := r21_0.toList) rfl r21_0_ok ?_
  refine a_op rfl (o_as rfl) ?_
  refine a_op rfl (o_as rfl) ?_
  refine a_nil ?_
  refine tq_n ?_
  refine awp_seq ?_
  refine awp_seq ?_
  refine w_reg (l := r21_1.toList) rfl r21_1_ok ?_
  refine a_op rfl (o_mv rfl) ?_
  refine a_op rfl (o_mv rfl) ?_
  refine a_op rfl (o_mv rfl) ?_
  refine a_pureb rfl rfl rfl cb40 (dated_ok _ _ _) (fun h1 => ?_) (fun h2 => ?_)
  · have hd := dated_imp h1
    refine a_op rfl (o_ntt rfl) ?_
    refine a_nil ?_
    refine tq_n ?_
    refine w_false rfl ?_
    refine awp_skip ?_
    refine tq_n ?_
    refine awp_seq ?_
    refine w_reg (l := r21_3.toList) rfl r21_3_ok ?_
    refine a_op rfl (o_mv rfl) ?_
    refine a_op rfl (o_sub rfl rfl (by simp only [klo, khi]; omega)) ?_
    refine a_op rfl (o_as rfl) ?_
    refine a_nil ?_
    refine tq_n ?_
    refine awp_seq ?_
    refine w_reg (l := r21_4.toList) rfl r21_4_ok ?_
    refine a_op rfl (o_mv rfl) ?_
    refine a_op rfl (o_mul rfl rfl (by simp only [klo, khi]; omega)) ?_
    refine a_op rfl (o_mv rfl) ?_
    refine a_op rfl (o_quo rfl rfl (by simp only [klo, khi]; omega) (by omega)) ?_
    refine a_op rfl (o_add rfl rfl (by simp only [klo, khi]; omega)) ?_
    refine a_op rfl (o_mv rfl) ?_
    refine a_op rfl (o_quo rfl rfl (by simp only [klo, khi]; omega) (by omega)) ?_
    refine a_op rfl (o_sub rfl rfl (by simp only [klo, khi]; omega)) ?_
    refine a_op rfl (o_mv rfl) ?_
    refine a_op rfl (o_quo rfl rfl (by simp only [klo, khi]; omega) (by omega)) ?_
    refine a_op rfl (o_add rfl rfl (by simp only [klo, khi]; omega)) ?_
    refine a_op rfl (o_sub rfl rfl (by simp only [klo, khi]; omega)) ?_
    refine a_op rfl (o_mv rfl) ?_
    refine a_op rfl (o_mv rfl) ?_
    refine a_pure rfl rfl rfl cb39 (first_ok _ _ (by omega) (by omega) (by omega)) ?_
    refine a_op rfl (o_add rfl rfl (by simp only [klo, khi]; omega)) ?_
    refine a_op rfl (o_mv rfl) ?_
    refine a_op rfl (o_add rfl rfl (by simp only [klo, khi]; omega)) ?_
    refine a_op rfl (o_sub rfl rfl (by simp only [klo, khi]; omega)) ?_
    refine a_op rfl (o_as rfl) ?_
    refine a_op rfl (o_as rfl) ?_
    refine a_nil ?_
    refine tq_n ?_
    refine awp_ret ?_
    refine r_tup (xs := []) rfl ⟨rfl, rfl, trivial⟩ ?_
    exact rs_pur (by simp) (by simp [dayF, *])
  · refine a_op rfl (o_ntf rfl) ?_
    refine a_nil ?_
    refine tq_n ?_
    refine w_true rfl ?_
    refine awp_seq ?_
    refine w_reg (l := r21_2.toList) rfl r21_2_ok ?_
    refine a_op rfl (o_as rfl) ?_
    refine a_op rfl (o_as rfl) ?_
    refine a_nil ?_
    refine tq_n ?_
    refine awp_ret ?_
    refine tq_r ?_
    refine r_tup (xs := []) rfl ⟨rfl, rfl, trivial⟩ ?_
    exact rs_pur (by simp) (by simp [dayF, *])
noncomputable def r55_0 : Array Oper := opsAt Tryd.f55 [0]
theorem r55_0_ok : dstOk 24 r55_0.toList = true ∧ r55_0.toList.all (fun o => noDefer o.op) = true := by decide +kernel
noncomputable def r55_1 : Array Oper := opsAt Tryd.f55 [1, 0]
theorem r55_1_ok : dstOk 24 r55_1.toList = true ∧ r55_1.toList.all (fun o => noDefer o.op) = true := by decide +kernel
noncomputable def r55_2 : Array Oper := opsAt Tryd.f55 [1, 1, 0, 0]
theorem r55_2_ok : dstOk 24 r55_2.toList = true ∧ r55_2.toList.all (fun o => noDefer o.op) = true := by decide +kernel
noncomputable def r55_3 : Array Oper := opsAt Tryd.f55 [1, 1, 0, 1, 0, 0, 0]
theorem r55_3_ok : dstOk 24 r55_3.toList = true ∧ r55_3.toList.all (fun o => noDefer o.op) = true := by decide +kernel
noncomputable def r55_4 : Array Oper := opsAt Tryd.f55 [1, 1, 0, 1, 0, 0, 1, 1, 0, 0, 0]
theorem r55_4_ok : dstOk 24 r55_4.toList = true ∧ r55_4.toList.all (fun o => noDefer o.op) = true := by decide +kernel
noncomputable def r55_5 : Array Oper := opsAt Tryd.f55 [1, 1, 0, 1, 0, 0, 1, 1, 0, 0, 1, 0, 0]
theorem r55_5_ok : dstOk 24 r55_5.toList = true ∧ r55_5.toList.all (fun o => noDefer o.op) = true := by decide +kernel
noncomputable def r55_6 : Array Oper := opsAt Tryd.f55 [1, 1, 0, 1, 0, 0, 1, 1, 0, 0, 1, 0, 1, 0, 0]
theorem r55_6_ok : dstOk 24 r55_6.toList = true ∧ r55_6.toList.all (fun o => noDefer o.op) = true := by decide +kernel
noncomputable def r55_7 : Array Oper := opsAt Tryd.f55 [1, 1, 0, 1, 0, 0, 1, 1, 0, 0, 1, 1]
theorem r55_7_ok : dstOk 24 r55_7.toList = true ∧ r55_7.toList.all (fun o => noDefer o.op) = true := by decide +kernel
noncomputable def r55_8 : Array Oper := opsAt Tryd.f55 [1, 1, 0, 1, 0, 0, 1, 1, 1]
theorem r55_8_ok : dstOk 24 r55_8.toList = true ∧ r55_8.toList.all (fun o => noDefer o.op) = true := by decide +kernel
noncomputable def b55_0 : Code := (.seq (.region 3 r55_3 false) (.seq (.cond (.tmp 9) .skip (.exit 0)) (.seq (.block 1 (.seq (.region 4 r55_4 false) (.seq (.seq (.region 5 r55_5 false) (.cond (.tmp 18) (.seq (.region 6 r55_6 false) .ret) .skip)) (.region 7 r55_7 false)))) (.region 8 r55_8 false))))
noncomputable def r55_9 : Array Oper := opsAt Tryd.f55 [1, 1, 1, 0]
theorem r55_9_ok : dstOk 24 r55_9.toList = true ∧ r55_9.toList.all (fun o => noDefer o.op) = true := by decide +kernel
noncomputable def c55 : Code := (.seq (.region 0 r55_0 false) (.seq (.region 1 r55_1 false) (.seq (.seq (.region 2 r55_2 false) (.block 0 (.loop b55_0))) (.seq (.region 9 r55_9 false) .ret))))
theorem body55 : Tryd.f55.body = some c55 := by kernel_rfl
theorem right_ok (b : Bool) (hs : List Int) (hl : hs.length ≤ 4611686018427387904) : PureCall Tryd.prog GL 55 [.sl 1 b (hs.map intAV)] (.raw (.bool (rightF hs))) := by
  refine pure_of_body Tryd.func55 body55 (Nat.le_of_ble_eq_true rfl) (by simp) (by simp) ?_
  refine w_keep [(0, .sl 1 b (hs.map intAV))] ⟨rfl, trivial⟩ ?_
  unfold c55
  refine awp_seq ?_
  refine w_reg (l := r55_0.toList) rfl r55_0_ok ?_
  refine a_op rfl (o_as rfl) ?_
  refine a_nil ?_
  refine tq_n ?_
  refine awp_seq ?_
  refine w_reg (l := r55_1.toList) rfl r55_1_ok ?_
  refine a_op rfl (o_as rfl) ?_
  refine a_nil ?_
  refine tq_n ?_
  refine awp_seq ?_
  refine awp_seq ?_
  refine w_reg (l := r55_2.toList) rfl r55_2_ok ?_
  refine a_op rfl (o_mv rfl) ?_
  refine a_op rfl (o_len rfl rfl (by first | exact List.length_map .. | rfl) tl34) ?_
  refine a_op rfl (o_mv rfl) ?_
  refine a_nil ?_
  refine tq_n ?_
  refine awp_block ?_
  refine w_loop (fun s : Nat × Int => s.1 ≤ hs.length ∧ incr (-1) hs = incr s.2 (hs.drop s.1)) (fun s => [(0, .sl 1 b (hs.map intAV)), (3, .raw (.int .i64 s.2)), (6, .sl 1 b (hs.map intAV)), (7, .raw (.int .i64 (hs.length : Int))), (8, .raw (.int .i64 (s.1 : Int)))]) (fun _ => []) (fun s => hs.length - s.1) ((0, -1)) ⟨by simp, by simp⟩ ⟨(by first | exact sub_int rfl (by omega) | rfl), (by first | exact sub_int rfl (by omega) | rfl), (by first | exact sub_int rfl (by omega) | rfl), (by first | exact sub_int rfl (by omega) | rfl), (by first | exact sub_int rfl (by omega) | rfl), trivial⟩ rfl ?_
  intro ⟨i, last⟩ ⟨hp1, hp2⟩
  dsimp only at hp1 hp2 ⊢
  unfold b55_0
  refine awp_seq ?_
  refine w_reg (l := r55_3.toList) rfl r55_3_ok ?_
  refine a_if rfl (o_lt rfl rfl) (fun h1 => ?_) (fun h2 => ?_)
  · refine a_nil ?_
    refine tq_n ?_
    refine awp_seq ?_
    refine w_true rfl ?_
    refine awp_skip ?_
    refine tq_n ?_
    refine awp_seq ?_
    refine awp_block ?_
    refine awp_seq ?_
    refine w_reg (l := r55_4.toList) rfl r55_4_ok ?_
    refine a_op rfl (o_ix te34 tn3 rfl rfl rfl (ixm _ _ _ (by omega))) ?_
    refine a_op rfl ((by first | exact o_ld tg3 rfl rfl | exact o_ldp tg3 rfl rfl rfl rfl)) ?_
    refine a_op rfl (o_as rfl) ?_
    refine a_nil ?_
    refine tq_n ?_
    refine awp_seq ?_
    refine awp_seq ?_
    refine w_reg (l := r55_5.toList) rfl r55_5_ok ?_
    refine a_op rfl (o_mv rfl) ?_
    refine a_op rfl (o_mv rfl) ?_
    refine a_if rfl (o_le rfl rfl) (fun h3 => ?_) (fun h4 => ?_)
    · refine a_op rfl (o_mv rfl) ?_
      refine a_off rfl ?_
      refine a_off rfl ?_
      refine a_op rfl (o_pkt rfl rfl) ?_
      refine a_nil ?_
      refine tq_n ?_
      refine w_true rfl ?_
      refine awp_seq ?_
      refine w_reg (l := r55_6.toList) rfl r55_6_ok ?_
      refine a_op rfl (o_as rfl) ?_
      refine a_nil ?_
      refine tq_n ?_
      refine awp_ret ?_
      refine tq_r ?_
      refine bq_r ?_
      refine tq_r ?_
      refine tq_r ?_
      refine bq_r ?_
      refine tq_r ?_
      refine r_one rfl ⟨rfl, trivial⟩ ?_
      exact rs_pur (by simp) (by simp [rightF, hp2, incr_stop (hs := hs) (i := i) (last := last) (by omega) (by omega)])
    · refine a_op rfl (o_mv rfl) ?_
      refine a_op rfl (o_mv rfl) ?_
      refine a_if rfl (o_gt rfl rfl) (fun h5 => ?_) (fun h6 => ?_)
      · refine a_op rfl (o_pkf rfl rfl) ?_
        refine a_nil ?_
        refine tq_n ?_
        refine w_true rfl ?_
        refine awp_seq ?_
        refine w_reg (l := r55_6.toList) rfl r55_6_ok ?_
        refine a_op rfl (o_as rfl) ?_
        refine a_nil ?_
        refine tq_n ?_
        refine awp_ret ?_
        refine tq_r ?_
        refine bq_r ?_
        refine tq_r ?_
        refine tq_r ?_
        refine bq_r ?_
        refine tq_r ?_
        refine r_one rfl ⟨rfl, trivial⟩ ?_
        exact rs_pur (by simp) (by simp [rightF, hp2, incr_stop (hs := hs) (i := i) (last := last) (by omega) (by omega)])
      · refine a_op rfl (o_pkf rfl rfl) ?_
        refine a_nil ?_
        refine tq_n ?_
        refine w_false rfl ?_
        refine awp_skip ?_
        refine tq_n ?_
        refine w_reg (l := r55_7.toList) rfl r55_7_ok ?_
        refine a_op rfl (o_mv rfl) ?_
        refine a_op rfl (o_as rfl) ?_
        refine a_nil ?_
        refine bq_n ?_
        refine tq_n ?_
        refine w_reg (l := r55_8.toList) rfl r55_8_ok ?_
        refine a_op rfl (o_add rfl rfl (by simp only [klo, khi]; omega)) ?_
        refine a_op rfl (o_mv rfl) ?_
        refine a_nil ?_
        refine tq_n ?_
        exact ⟨(i + 1, hs[i]), ⟨⟨by dsimp only; omega, hp2.trans (incr_step (by omega) (by omega) (by omega))⟩, by dsimp only; omega⟩, ⟨(by first | exact sub_int rfl (by omega) | rfl), (by first | exact sub_int rfl (by omega) | rfl), (by first | exact sub_int rfl (by omega) | rfl), (by first | exact sub_int rfl (by omega) | rfl), (by first | exact sub_int rfl (by omega) | rfl), trivial⟩, rfl⟩
  · refine a_nil ?_
    refine tq_n ?_
    refine awp_seq ?_
    refine w_false rfl ?_
    refine awp_exit ?_
    refine tq_x ?_
    refine tq_x ?_
    refine bq_hit ?_
    refine tq_n ?_
    refine awp_seq ?_
    refine w_reg (l := r55_9.toList) rfl r55_9_ok ?_
    refine a_op rfl (o_mv rfl) ?_
    refine a_op rfl (o_len rfl rfl (by first | exact List.length_map .. | rfl) tl34) ?_
    refine a_op rfl (o_le rfl rfl) ?_
    refine a_op rfl (o_as rfl) ?_
    refine a_nil ?_
    refine tq_n ?_
    refine awp_ret ?_
    refine r_one rfl ⟨rfl, trivial⟩ ?_
    exact rs_pur (by simp) (by simp [rightF, hp2, List.drop_of_length_le (show hs.length ≤ i by omega), incr])
noncomputable def r33_0 : Array Oper := opsAt Tryd.f33 [0]
theorem r33_0_ok : dstOk 14 r33_0.toList = true ∧ r33_0.toList.all (fun o => noDefer o.op) = true := by decide +kernel
noncomputable def r33_1 : Array Oper := opsAt Tryd.f33 [1, 0, 0]
theorem r33_1_ok : dstOk 14 r33_1.toList = true ∧ r33_1.toList.all (fun o => noDefer o.op) = true := by decide +kernel
noncomputable def r33_2 : Array Oper := opsAt Tryd.f33 [1, 0, 1, 0, 0]
theorem r33_2_ok : dstOk 14 r33_2.toList = true ∧ r33_2.toList.all (fun o => noDefer o.op) = true := by decide +kernel
noncomputable def r33_3 : Array Oper := opsAt Tryd.f33 [1, 1, 0, 0]
theorem r33_3_ok : dstOk 14 r33_3.toList = true ∧ r33_3.toList.all (fun o => noDefer o.op) = true := by decide +kernel
noncomputable def r33_4 : Array Oper := opsAt Tryd.f33 [1, 1, 0, 1, 0, 0]
theorem r33_4_ok : dstOk 14 r33_4.toList = true ∧ r33_4.toList.all (fun o => noDefer o.op) = true := by decide +kernel
noncomputable def r33_5 : Array Oper := opsAt Tryd.f33 [1, 1, 1, 0]
theorem r33_5_ok : dstOk 14 r33_5.toList = true ∧ r33_5.toList.all (fun o => noDefer o.op) = true := by decide +kernel
noncomputable def c33 : Code := (.seq (.region 0 r33_0 false) (.seq (.seq (.region 1 r33_1 false) (.cond (.tmp 11) (.seq (.region 2 r33_2 false) .ret) .skip)) (.seq (.seq (.region 3 r33_3 false) (.cond (.tmp 13) (.seq (.region 4 r33_4 false) .ret) .skip)) (.seq (.region 5 r33_5 false) .ret))))
theorem body33 : Tryd.f33.body = some c33 := by kernel_rfl
theorem wrong_ok (b : Bool) (hs : List Int) (hl : hs.length ≤ 4611686018427387904) (day : Int) : PureCall Tryd.prog GL 33 [.sl 1 b (hs.map intAV), .raw (.int .i64 day)] (.raw (.int .i64 (wrF hs day))) := by
  refine pure_of_body Tryd.func33 body33 (Nat.le_of_ble_eq_true rfl) (by simp) (by simp) ?_
  refine w_keep [(0, .sl 1 b (hs.map intAV)), (1, .raw (.int .i64 day))] ⟨rfl, rfl, trivial⟩ ?_
  unfold c33
  refine awp_seq ?_
  refine w_reg (l := r33_0.toList) rfl r33_0_ok ?_
  refine a_op rfl (o_as rfl) ?_
  refine a_nil ?_
  refine tq_n ?_
  refine awp_seq ?_
  refine awp_seq ?_
  refine w_reg (l := r33_1.toList) rfl r33_1_ok ?_
  refine a_op rfl (o_mv rfl) ?_
  refine a_pureb rfl rfl rfl cb55 (right_ok _ _ (by omega)) (fun h1 => ?_) (fun h2 => ?_)
  · refine a_op rfl (o_ntt rfl) ?_
    refine a_op rfl (o_mv rfl) ?_
    refine a_op rfl (o_mv rfl) ?_
    refine a_if rfl (o_lt rfl rfl) (fun h3 => ?_) (fun h4 => ?_)
    · refine a_op rfl (o_pkf rfl rfl) ?_
      refine a_nil ?_
      refine tq_n ?_
      refine w_true rfl ?_
      refine awp_seq ?_
      refine w_reg (l := r33_2.toList) rfl r33_2_ok ?_
      refine a_op rfl (o_as rfl) ?_
      refine a_nil ?_
      refine tq_n ?_
      refine awp_ret ?_
      refine tq_r ?_
      refine r_one rfl ⟨rfl, trivial⟩ ?_
      exact rs_pur (by simp) (by simp [wrF, *] <;> omega)
    · refine a_op rfl (o_pkf rfl rfl) ?_
      refine a_nil ?_
      refine tq_n ?_
      refine w_false rfl ?_
      refine awp_skip ?_
      refine tq_n ?_
      refine awp_seq ?_
      refine awp_seq ?_
      refine w_reg (l := r33_3.toList) rfl r33_3_ok ?_
      refine a_op rfl (o_mv rfl) ?_
      refine a_if rfl (o_gt rfl rfl) (fun h5 => ?_) (fun h6 => ?_)
      · refine a_nil ?_
        refine tq_n ?_
        refine w_true rfl ?_
        refine awp_seq ?_
        refine w_reg (l := r33_4.toList) rfl r33_4_ok ?_
        refine a_op rfl (o_as rfl) ?_
        refine a_nil ?_
        refine tq_n ?_
        refine awp_ret ?_
        refine tq_r ?_
        refine r_one rfl ⟨rfl, trivial⟩ ?_
        exact rs_pur (by simp) (by simp [wrF, *] <;> omega)
      · refine a_nil ?_
        refine tq_n ?_
        refine w_false rfl ?_
        refine awp_skip ?_
        refine tq_n ?_
        refine awp_seq ?_
        refine w_reg (l := r33_5.toList) rfl r33_5_ok ?_
        refine a_op rfl (o_as rfl) ?_
        refine a_nil ?_
        refine tq_n ?_
        refine awp_ret ?_
        refine r_one rfl ⟨rfl, trivial⟩ ?_
        exact rs_pur (by simp) (by simp [wrF, *] <;> omega)
  · refine a_op rfl (o_ntf rfl) ?_
    refine a_op rfl (o_mv rfl) ?_
    refine a_off rfl ?_
    refine a_off rfl ?_
    refine a_op rfl (o_pkt rfl rfl) ?_
    refine a_nil ?_
    refine tq_n ?_
    refine w_true rfl ?_
    refine awp_seq ?_
    refine w_reg (l := r33_2.toList) rfl r33_2_ok ?_
    refine a_op rfl (o_as rfl) ?_
    refine a_nil ?_
    refine tq_n ?_
    refine awp_ret ?_
    refine tq_r ?_
    refine r_one rfl ⟨rfl, trivial⟩ ?_
    exact rs_pur (by simp) (by simp [wrF, *] <;> omega)
noncomputable def r58_0 : Array Oper := opsAt Tryd.f58 [0]
theorem r58_0_ok : dstOk 12 r58_0.toList = true ∧ r58_0.toList.all (fun o => noDefer o.op) = true := by decide +kernel
noncomputable def r58_1 : Array Oper := opsAt Tryd.f58 [1, 0, 0]
theorem r58_1_ok : dstOk 12 r58_1.toList = true ∧ r58_1.toList.all (fun o => noDefer o.op) = true := by decide +kernel
noncomputable def r58_2 : Array Oper := opsAt Tryd.f58 [1, 0, 1, 0]
theorem r58_2_ok : dstOk 12 r58_2.toList = true ∧ r58_2.toList.all (fun o => noDefer o.op) = true := by decide +kernel
noncomputable def r58_3 : Array Oper := opsAt Tryd.f58 [1, 0, 1, 1, 0, 0]
theorem r58_3_ok : dstOk 12 r58_3.toList = true ∧ r58_3.toList.all (fun o => noDefer o.op) = true := by decide +kernel
noncomputable def r58_4 : Array Oper := opsAt Tryd.f58 [1, 1, 0]
theorem r58_4_ok : dstOk 12 r58_4.toList = true ∧ r58_4.toList.all (fun o => noDefer o.op) = true := by decide +kernel
noncomputable def c58 : Code := (.seq (.region 0 r58_0 false) (.seq (.seq (.region 1 r58_1 false) (.seq (.region 2 r58_2 false) (.cond (.tmp 8) (.seq (.region 3 r58_3 false) .ret) .skip))) (.seq (.region 4 r58_4 false) .ret)))
theorem body58 : Tryd.f58.body = some c58 := by kernel_rfl
theorem weekday_ok (day : Int) : PureCall Tryd.prog GL 58 [.raw (.int .i64 day)] (.tup [.raw (.int .i64 (if wi day 730484 = 0 then day % 7 else 0)), .raw (.int .i64 (wi day 730484))]) := by
  refine pure_of_body Tryd.func58 body58 (Nat.le_of_ble_eq_true rfl) (by simp) (by simp) ?_
  refine w_keep [(0, .raw (.int .i64 day))] ⟨rfl, trivial⟩ ?_
  unfold c58
  have hw := wi_iff day 730484
  refine awp_seq ?_
  refine w_reg (l := r58_0.toList) rfl r58_0_ok ?_
  refine a_op rfl (o_as rfl) ?_
  refine a_op rfl (o_as rfl) ?_
  refine a_nil ?_
  refine tq_n ?_
  refine awp_seq ?_
  refine awp_seq ?_
  refine w_reg (l := r58_1.toList) rfl r58_1_ok ?_
  refine a_op rfl (o_mv rfl) ?_
  refine a_pure rfl rfl rfl cb38 (within_ok _ _) ?_
  refine a_op rfl (o_as rfl) ?_
  refine a_nil ?_
  refine tq_n ?_
  refine awp_seq ?_
  refine w_reg (l := r58_2.toList) rfl r58_2_ok ?_
  refine a_op rfl (o_mv rfl) ?_
  refine a_if rfl (o_ne rfl rfl) (fun h1 => ?_) (fun h2 => ?_)
  · refine a_nil ?_
    refine tq_n ?_
    refine w_true rfl ?_
    refine awp_seq ?_
    refine w_reg (l := r58_3.toList) rfl r58_3_ok ?_
    refine a_op rfl (o_mv rfl) ?_
    refine a_op rfl (o_as rfl) ?_
    refine a_op rfl (o_as rfl) ?_
    refine a_nil ?_
    refine tq_n ?_
    refine awp_ret ?_
    refine tq_r ?_
    refine r_tup (xs := []) rfl ⟨rfl, rfl, trivial⟩ ?_
    exact rs_tup ⟨rs_int (by first | omega | (split <;> omega)), rs_int (by first | omega | (split <;> omega)), trivial⟩
  · refine a_nil ?_
    refine tq_n ?_
    refine w_false rfl ?_
    refine awp_skip ?_
    refine tq_n ?_
    refine awp_seq ?_
    refine w_reg (l := r58_4.toList) rfl r58_4_ok ?_
    refine a_op rfl (o_mv rfl) ?_
    refine a_op rfl (o_rem rfl rfl (by omega) (by omega)) ?_
    refine a_op rfl (o_as rfl) ?_
    refine a_op rfl (o_as rfl) ?_
    refine a_nil ?_
    refine tq_n ?_
    refine awp_ret ?_
    refine r_tup (xs := []) rfl ⟨rfl, rfl, trivial⟩ ?_
    exact rs_tup ⟨rs_int (by first | omega | (split <;> omega)), rs_int (by first | omega | (split <;> omega)), trivial⟩

def dtH (d : Int) : Int := min (d % 146097 / 36524) 3
def dt2 (d : Int) : Int := d % 146097 - dtH d * 36524
def dtF (d : Int) : Int := dt2 d / 1461
def dt3 (d : Int) : Int := dt2 d - dtF d * 1461
def dtO (d : Int) : Int := min (dt3 d / 365) 3
def dt4 (d : Int) : Int := dt3 d - dtO d * 365
def dtY (d : Int) : Int := 2001 + 400 * (d / 146097) + (100 * dtH d + 4 * dtF d + dtO d)
def mon (y d : Int) : Nat → Int → Int
  | 0, m => m
  | k + 1, m => if d ≥ fst y (m + 1) then mon y d k (m + 1) else m
def dtM (d : Int) : Int := mon (dtY d) (dt4 d) 12 1
def dtD (d : Int) : Int := dt4 d - fst (dtY d) (dtM d) + 1
theorem fst13 (y : Int) : fst y 13 = 365 + if leap y = true then 1 else 0 := by simp [fst, ah]
theorem fst1 (y : Int) : fst y 1 = 0 := by simp [fst, ah]
theorem dt_bd (d : Int) (h0 : 0 ≤ d) (h1 : d ≤ 730484) : 2001 ≤ dtY d ∧ dtY d ≤ 4000 ∧ 0 ≤ dt4 d ∧ dt4 d < fst (dtY d) 13 := by
  rw [fst13]
  have hl : (leap (dtY d) = true ↔ (dtY d % 4 = 0 ∧ (dtY d % 100 ≠ 0 ∨ dtY d % 400 = 0))) := by simp [leap]
  have e1 : dtH d = min (d % 146097 / 36524) 3 := rfl
  have e2 : dt2 d = d % 146097 - dtH d * 36524 := rfl
  have e3 : dtF d = dt2 d / 1461 := rfl
  have e4 : dt3 d = dt2 d - dtF d * 1461 := rfl
  have e5 : dtO d = min (dt3 d / 365) 3 := rfl
  have e6 : dt4 d = dt3 d - dtO d * 365 := rfl
  have e7 : dtY d = 2001 + 400 * (d / 146097) + (100 * dtH d + 4 * dtF d + dtO d) := rfl
  by_cases hlp : leap (dtY d) = true
  · rw [if_pos hlp]; omega
  · rw [if_neg hlp]
    have : ¬ (dtY d % 4 = 0 ∧ (dtY d % 100 ≠ 0 ∨ dtY d % 400 = 0)) := fun h => hlp (hl.2 h)
    omega
theorem mon_bd (y d : Int) : ∀ (k : Nat) (m : Int), m ≤ mon y d k m ∧ mon y d k m ≤ m + k
  | 0, m => by simp [mon]
  | k + 1, m => by
    simp only [mon]
    split
    · have := mon_bd y d k (m + 1); omega
    · omega
theorem date_next {y d M : Int} {i : Nat} (hi : i ≤ 11) (h13 : d < fst y 13) (h : d ≥ fst y (1 + (i : Int) + 1)) (he : mon y d (12 - i) (1 + (i : Int)) = M) : i + 1 ≤ 11 ∧ mon y d (12 - (i + 1)) (1 + ((i + 1 : Nat) : Int)) = M := by
  rcases Nat.lt_or_ge i 11 with hlt | hge
  · refine ⟨by omega, ?_⟩
    rw [show 12 - i = (12 - (i + 1)) + 1 by omega] at he
    simp only [mon] at he
    rw [if_pos h] at he
    rw [← he]; congr 1 <;> omega
  · have : i = 11 := by omega
    subst this
    exact absurd h13 (by simpa using h)
theorem date_stop {y d M : Int} {i : Nat} (hi : i ≤ 11) (h : ¬ d ≥ fst y (1 + (i : Int) + 1)) (he : mon y d (12 - i) (1 + (i : Int)) = M) : M = 1 + (i : Int) := by
  rw [show 12 - i = (11 - i) + 1 by omega] at he
  simp only [mon] at he
  rw [if_neg h] at he
  exact he.symm
def dateY (d : Int) : Int := if wi d 730484 = 0 then dtY d else 0
def dateM (d : Int) : Int := if wi d 730484 = 0 then dtM d else 0
def dateD (d : Int) : Int := if wi d 730484 = 0 then dtD d else 0
theorem date_bd (d : Int) : 0 ≤ dateY d ∧ dateY d ≤ 4000 ∧ 0 ≤ dateM d ∧ dateM d ≤ 13 ∧ -1000 ≤ dateD d ∧ dateD d ≤ 1000 := by
  unfold dateY dateM dateD
  split
  · rename_i h
    have h2 := (wi_iff d 730484).1 h
    have h3 := dt_bd d h2.1 h2.2
    have h4 := mon_bd (dtY d) (dt4 d) 12 1
    have h5 := fst_bd (dtY d) (dtM d)
    have h6 := fst_bd (dtY d) 13
    unfold dtD
    unfold dtM at *
    omega
  · omega
def dateAV (d : Int) : AV := .tup [.raw (.int .i64 (dateY d)), .raw (.int .i64 (dateM d)), .raw (.int .i64 (dateD d)), .raw (.int .i64 (wi d 730484))]
@[simp] theorem pur_date (d : Int) : Pur (dateAV d) ↔ True := by simp [dateAV]

noncomputable def r20_0 : Array Oper := opsAt Tryd.f20 [0]
theorem r20_0_ok : dstOk 68 r20_0.toList = true ∧ r20_0.toList.all (fun o => noDefer o.op) = true := by decide +kernel
noncomputable def r20_1 : Array Oper := opsAt Tryd.f20 [1, 0, 0]
theorem r20_1_ok : dstOk 68 r20_1.toList = true ∧ r20_1.toList.all (fun o => noDefer o.op) = true := by decide +kernel
noncomputable def r20_2 : Array Oper := opsAt Tryd.f20 [1, 0, 1, 0]
theorem r20_2_ok : dstOk 68 r20_2.toList = true ∧ r20_2.toList.all (fun o => noDefer o.op) = true := by decide +kernel
noncomputable def r20_3 : Array Oper := opsAt Tryd.f20 [1, 0, 1, 1, 0, 0]
theorem r20_3_ok : dstOk 68 r20_3.toList = true ∧ r20_3.toList.all (fun o => noDefer o.op) = true := by decide +kernel
noncomputable def r20_4 : Array Oper := opsAt Tryd.f20 [1, 1, 0]
theorem r20_4_ok : dstOk 68 r20_4.toList = true ∧ r20_4.toList.all (fun o => noDefer o.op) = true := by decide +kernel
noncomputable def r20_5 : Array Oper := opsAt Tryd.f20 [1, 1, 1, 0]
theorem r20_5_ok : dstOk 68 r20_5.toList = true ∧ r20_5.toList.all (fun o => noDefer o.op) = true := by decide +kernel
noncomputable def r20_6 : Array Oper := opsAt Tryd.f20 [1, 1, 1, 1, 0]
theorem r20_6_ok : dstOk 68 r20_6.toList = true ∧ r20_6.toList.all (fun o => noDefer o.op) = true := by decide +kernel
noncomputable def r20_7 : Array Oper := opsAt Tryd.f20 [1, 1, 1, 1, 1, 0]
theorem r20_7_ok : dstOk 68 r20_7.toList = true ∧ r20_7.toList.all (fun o => noDefer o.op) = true := by decide +kernel
noncomputable def r20_8 : Array Oper := opsAt Tryd.f20 [1, 1, 1, 1, 1, 1, 0]
theorem r20_8_ok : dstOk 68 r20_8.toList = true ∧ r20_8.toList.all (fun o => noDefer o.op) = true := by decide +kernel
noncomputable def r20_9 : Array Oper := opsAt Tryd.f20 [1, 1, 1, 1, 1, 1, 1, 0]
theorem r20_9_ok : dstOk 68 r20_9.toList = true ∧ r20_9.toList.all (fun o => noDefer o.op) = true := by decide +kernel
noncomputable def r20_10 : Array Oper := opsAt Tryd.f20 [1, 1, 1, 1, 1, 1, 1, 1, 0]
theorem r20_10_ok : dstOk 68 r20_10.toList = true ∧ r20_10.toList.all (fun o => noDefer o.op) = true := by decide +kernel
noncomputable def r20_11 : Array Oper := opsAt Tryd.f20 [1, 1, 1, 1, 1, 1, 1, 1, 1, 0]
theorem r20_11_ok : dstOk 68 r20_11.toList = true ∧ r20_11.toList.all (fun o => noDefer o.op) = true := by decide +kernel
noncomputable def r20_12 : Array Oper := opsAt Tryd.f20 [1, 1, 1, 1, 1, 1, 1, 1, 1, 1, 0]
theorem r20_12_ok : dstOk 68 r20_12.toList = true ∧ r20_12.toList.all (fun o => noDefer o.op) = true := by decide +kernel
noncomputable def r20_13 : Array Oper := opsAt Tryd.f20 [1, 1, 1, 1, 1, 1, 1, 1, 1, 1, 1, 0]
theorem r20_13_ok : dstOk 68 r20_13.toList = true ∧ r20_13.toList.all (fun o => noDefer o.op) = true := by decide +kernel
noncomputable def r20_14 : Array Oper := opsAt Tryd.f20 [1, 1, 1, 1, 1, 1, 1, 1, 1, 1, 1, 1, 0, 0, 0, 0, 0]
theorem r20_14_ok : dstOk 68 r20_14.toList = true ∧ r20_14.toList.all (fun o => noDefer o.op) = true := by decide +kernel
noncomputable def r20_15 : Array Oper := opsAt Tryd.f20 [1, 1, 1, 1, 1, 1, 1, 1, 1, 1, 1, 1, 0, 0, 0, 1, 0]
theorem r20_15_ok : dstOk 68 r20_15.toList = true ∧ r20_15.toList.all (fun o => noDefer o.op) = true := by decide +kernel
noncomputable def b20_0 : Code := (.seq (.seq (.region 14 r20_14 false) (.cond (.tmp 57) .skip (.exit 0))) (.block 1 (.region 15 r20_15 false)))
noncomputable def r20_16 : Array Oper := opsAt Tryd.f20 [1, 1, 1, 1, 1, 1, 1, 1, 1, 1, 1, 1, 1, 0]
theorem r20_16_ok : dstOk 68 r20_16.toList = true ∧ r20_16.toList.all (fun o => noDefer o.op) = true := by decide +kernel
noncomputable def c20 : Code := (.seq (.region 0 r20_0 false) (.seq (.seq (.region 1 r20_1 false) (.seq (.region 2 r20_2 false) (.cond (.tmp 15) (.seq (.region 3 r20_3 false) .ret) .skip))) (.seq (.region 4 r20_4 false) (.seq (.region 5 r20_5 false) (.seq (.region 6 r20_6 false) (.seq (.region 7 r20_7 false) (.seq (.region 8 r20_8 false) (.seq (.region 9 r20_9 false) (.seq (.region 10 r20_10 false) (.seq (.region 11 r20_11 false) (.seq (.region 12 r20_12 false) (.seq (.region 13 r20_13 false) (.seq (.block 0 (.loop b20_0)) (.seq (.region 16 r20_16 false) .ret))))))))))))))
theorem body20 : Tryd.f20.body = some c20 := by kernel_rfl
theorem date_ok (day : Int) : PureCall Tryd.prog GL 20 [.raw (.int .i64 day)] (dateAV day) := by
  refine pure_of_body Tryd.func20 body20 (Nat.le_of_ble_eq_true rfl) (by simp) (by simp) ?_
  refine w_keep [(0, .raw (.int .i64 day))] ⟨rfl, trivial⟩ ?_
  unfold c20
  have hw := wi_iff day 730484; have hdt := dt_bd day
  refine awp_seq ?_
  refine w_reg (l := r20_0.toList) rfl r20_0_ok ?_
  refine a_op rfl (o_as rfl) ?_
  refine a_op rfl (o_as rfl) ?_
  refine a_op rfl (o_as rfl) ?_
  refine a_op rfl (o_as rfl) ?_
  refine a_nil ?_
  refine tq_n ?_
  refine awp_seq ?_
  refine awp_seq ?_
  refine w_reg (l := r20_1.toList) rfl r20_1_ok ?_
  refine a_op rfl (o_mv rfl) ?_
  refine a_pure rfl rfl rfl cb38 (within_ok _ _) ?_
  refine a_op rfl (o_as rfl) ?_
  refine a_nil ?_
  refine tq_n ?_
  refine awp_seq ?_
  refine w_reg (l := r20_2.toList) rfl r20_2_ok ?_
  refine a_op rfl (o_mv rfl) ?_
  refine a_if rfl (o_ne rfl rfl) (fun h1 => ?_) (fun h2 => ?_)
  · refine a_nil ?_
    refine tq_n ?_
    refine w_true rfl ?_
    refine awp_seq ?_
    refine w_reg (l := r20_3.toList) rfl r20_3_ok ?_
    refine a_op rfl (o_mv rfl) ?_
    refine a_op rfl (o_as rfl) ?_
    refine a_op rfl (o_as rfl) ?_
    refine a_op rfl (o_as rfl) ?_
    refine a_op rfl (o_as rfl) ?_
    refine a_nil ?_
    refine tq_n ?_
    refine awp_ret ?_
    refine tq_r ?_
    refine r_tup (xs := [_, _]) rfl ⟨rfl, rfl, rfl, rfl, trivial⟩ ?_
    clear hw hdt
    exact rs_tup ⟨rs_int (by simp [dateY, *]), rs_int (by simp [dateM, *]), rs_int (by simp [dateD, *]), rs_int rfl, trivial⟩
  · refine a_nil ?_
    refine tq_n ?_
    refine w_false rfl ?_
    refine awp_skip ?_
    refine tq_n ?_
    refine awp_seq ?_
    refine w_reg (l := r20_4.toList) rfl r20_4_ok ?_
    refine a_op rfl (o_mv rfl) ?_
    refine a_op rfl (o_quo rfl rfl (by simp only [klo, khi]; omega) (by omega)) ?_
    refine a_op rfl (o_mul rfl rfl (by simp only [klo, khi]; omega)) ?_
    refine a_op rfl (o_add rfl rfl (by simp only [klo, khi]; omega)) ?_
    refine a_op rfl (o_as rfl) ?_
    refine a_nil ?_
    refine tq_n ?_
    refine awp_seq ?_
    refine w_reg (l := r20_5.toList) rfl r20_5_ok ?_
    refine a_op rfl (o_mv rfl) ?_
    refine a_op rfl (o_rem rfl rfl (by omega) (by omega)) ?_
    refine a_op rfl (o_as rfl) ?_
    refine a_nil ?_
    refine tq_n ?_
    refine awp_seq ?_
    refine w_reg (l := r20_6.toList) rfl r20_6_ok ?_
    refine a_op rfl (o_mv rfl) ?_
    refine a_op rfl (o_quo rfl rfl (by simp only [klo, khi]; omega) (by omega)) ?_
    refine a_op rfl (o_min rfl rfl) ?_
    refine a_op rfl (o_as rfl) ?_
    refine a_nil ?_
    refine tq_n ?_
    refine awp_seq ?_
    refine w_reg (l := r20_7.toList) rfl r20_7_ok ?_
    refine a_op rfl (o_mv rfl) ?_
    refine a_op rfl (o_mv rfl) ?_
    refine a_op rfl (o_mul rfl rfl (by simp only [klo, khi]; omega)) ?_
    refine a_op rfl (o_sub rfl rfl (by simp only [klo, khi]; omega)) ?_
    refine a_op rfl (o_as rfl) ?_
    refine a_nil ?_
    refine tq_n ?_
    refine awp_seq ?_
    refine w_reg (l := r20_8.toList) rfl r20_8_ok ?_
    refine a_op rfl (o_mv rfl) ?_
    refine a_op rfl (o_quo rfl rfl (by simp only [klo, khi]; omega) (by omega)) ?_
    refine a_op rfl (o_as rfl) ?_
    refine a_nil ?_
    refine tq_n ?_
    refine awp_seq ?_
    refine w_reg (l := r20_9.toList) rfl r20_9_ok ?_
    refine a_op rfl (o_mv rfl) ?_
    refine a_op rfl (o_mv rfl) ?_
    refine a_op rfl (o_mul rfl rfl (by simp only [klo, khi]; omega)) ?_
    refine a_op rfl (o_sub rfl rfl (by simp only [klo, khi]; omega)) ?_
    refine a_op rfl (o_as rfl) ?_
    refine a_nil ?_
    refine tq_n ?_
    refine awp_seq ?_
    refine w_reg (l := r20_10.toList) rfl r20_10_ok ?_
    refine a_op rfl (o_mv rfl) ?_
    refine a_op rfl (o_quo rfl rfl (by simp only [klo, khi]; omega) (by omega)) ?_
    refine a_op rfl (o_min rfl rfl) ?_
    refine a_op rfl (o_as rfl) ?_
    refine a_nil ?_
    refine tq_n ?_
    refine awp_seq ?_
    refine w_reg (l := r20_11.toList) rfl r20_11_ok ?_
    refine a_op rfl (o_mv rfl) ?_
    refine a_op rfl (o_mv rfl) ?_
    refine a_op rfl (o_mul rfl rfl (by simp only [klo, khi]; omega)) ?_
    refine a_op rfl (o_sub rfl rfl (by simp only [klo, khi]; omega)) ?_
    refine a_op rfl (o_as rfl) ?_
    refine a_nil ?_
    refine tq_n ?_
    refine awp_seq ?_
    refine w_reg (l := r20_12.toList) rfl r20_12_ok ?_
    refine a_op rfl (o_mv rfl) ?_
    refine a_op rfl (o_mv rfl) ?_
    refine a_op rfl (o_mul rfl rfl (by simp only [klo, khi]; omega)) ?_
    refine a_op rfl (o_mv rfl) ?_
    refine a_op rfl (o_mul rfl rfl (by simp only [klo, khi]; omega)) ?_
    refine a_op rfl (o_add rfl rfl (by simp only [klo, khi]; omega)) ?_
    refine a_op rfl (o_mv rfl) ?_
    refine a_op rfl (o_add rfl rfl (by simp only [klo, khi]; omega)) ?_
    refine a_op rfl (o_add rfl rfl (by simp only [klo, khi]; omega)) ?_
    refine a_op rfl (o_as rfl) ?_
    refine a_nil ?_
    refine tq_n ?_
    refine awp_seq ?_
    refine w_reg (l := r20_13.toList) rfl r20_13_ok ?_
    refine a_op rfl (o_as rfl) ?_
    refine a_nil ?_
    refine tq_n ?_
    refine awp_seq ?_
    refine awp_block ?_
    refine w_loop (fun i : Nat => i ≤ 11 ∧ mon (dtY day) (dt4 day) (12 - i) (1 + (i : Int)) = dtM day) (fun i => [(0, .raw (.int .i64 (dt4 day))), (7, .raw (.int .i64 (dtY day))), (11, .raw (.int .i64 (1 + (i : Int))))]) (fun _ => []) (fun i => 12 - i) (0) ⟨by omega, rfl⟩ ⟨(by first | exact sub_int rfl (by omega) | rfl), (by first | exact sub_int rfl (by omega) | rfl), (by first | exact sub_int rfl (by omega) | rfl), trivial⟩ rfl ?_
    intro i ⟨hp1, hp2⟩
    have hq := hdt (by omega) (by omega)
    have hfb := fst_bd (dtY day) (1 + (i : Int)); have hfc := fst_bd (dtY day) 13
    unfold b20_0
    refine awp_seq ?_
    refine awp_seq ?_
    refine w_reg (l := r20_14.toList) rfl r20_14_ok ?_
    refine a_op rfl (o_mv rfl) ?_
    refine a_op rfl (o_mv rfl) ?_
    refine a_op rfl (o_mv rfl) ?_
    refine a_op rfl (o_add rfl rfl (by simp only [klo, khi]; omega)) ?_
    refine a_pure rfl rfl rfl cb39 (first_ok _ _ (by omega) (by omega) (by omega)) ?_
    refine a_if rfl (o_ge rfl rfl) (fun h3 => ?_) (fun h4 => ?_)
    · refine a_nil ?_
      refine tq_n ?_
      refine w_true rfl ?_
      refine awp_skip ?_
      refine tq_n ?_
      refine awp_block ?_
      refine w_reg (l := r20_15.toList) rfl r20_15_ok ?_
      refine a_op rfl (o_mv rfl) ?_
      refine a_op rfl (o_add rfl rfl (by simp only [klo, khi]; omega)) ?_
      refine a_op rfl (o_as rfl) ?_
      refine a_nil ?_
      refine bq_n ?_
      refine tq_n ?_
      exact ⟨i + 1, ⟨date_next hp1 hq.2.2.2 (by assumption) hp2, by omega⟩, ⟨(by first | exact sub_int rfl (by omega) | rfl), (by first | exact sub_int rfl (by omega) | rfl), (by first | exact sub_int rfl (by omega) | rfl), trivial⟩, rfl⟩
    · refine a_nil ?_
      refine tq_n ?_
      refine w_false rfl ?_
      refine awp_exit ?_
      refine tq_x ?_
      refine tq_x ?_
      refine bq_hit ?_
      refine tq_n ?_
      refine awp_seq ?_
      refine w_reg (l := r20_16.toList) rfl r20_16_ok ?_
      refine a_op rfl (o_mv rfl) ?_
      refine a_op rfl (o_mv rfl) ?_
      refine a_op rfl (o_mv rfl) ?_
      refine a_op rfl (o_mv rfl) ?_
      refine a_op rfl (o_mv rfl) ?_
      refine a_pure rfl rfl rfl cb39 (first_ok _ _ (by omega) (by omega) (by omega)) ?_
      refine a_op rfl (o_sub rfl rfl (by simp only [klo, khi]; omega)) ?_
      refine a_op rfl (o_add rfl rfl (by simp only [klo, khi]; omega)) ?_
      refine a_op rfl (o_as rfl) ?_
      refine a_op rfl (o_as rfl) ?_
      refine a_op rfl (o_as rfl) ?_
      refine a_op rfl (o_as rfl) ?_
      refine a_nil ?_
      refine tq_n ?_
      refine awp_ret ?_
      refine r_tup (xs := [_, _]) rfl ⟨rfl, rfl, rfl, rfl, trivial⟩ ?_
      have hM := date_stop hp1 (by assumption) hp2
      exact rs_tup ⟨rs_int (by simp [dateY, (show wi day 730484 = 0 by omega)]), rs_int (by simp [dateM, (show wi day 730484 = 0 by omega), hM]), rs_int (by simp [dateD, (show wi day 730484 = 0 by omega), dtD, hM]), rs_int (by omega), trivial⟩

def now (day : Int) : Int := 100 * dateM day + dateD day
def yrE (day frm to : Int) : Int := if wi day 730484 ≠ 0 then wi day 730484 else if dated 2004 (frm.tdiv 100) (frm.tmod 100) = true ∧ dated 2004 (to.tdiv 100) (to.tmod 100) = true then 0 else 10
def yrB (day frm to : Int) : Bool := decide (yrE day frm to = 0 ∧ ((frm > to ∧ (now day ≥ frm ∨ now day ≤ to)) ∨ (¬ frm > to ∧ now day ≥ frm ∧ now day ≤ to)))

noncomputable def r62_0 : Array Oper := opsAt Tryd.f62 [0]
theorem r62_0_ok : dstOk 60 r62_0.toList = true ∧ r62_0.toList.all (fun o => noDefer o.op) = true := by decide +kernel
noncomputable def r62_1 : Array Oper := opsAt Tryd.f62 [1, 0]
theorem r62_1_ok : dstOk 60 r62_1.toList = true ∧ r62_1.toList.all (fun o => noDefer o.op) = true := by decide +kernel
noncomputable def r62_2 : Array Oper := opsAt Tryd.f62 [1, 1, 0, 0]
theorem r62_2_ok : dstOk 60 r62_2.toList = true ∧ r62_2.toList.all (fun o => noDefer o.op) = true := by decide +kernel
noncomputable def r62_3 : Array Oper := opsAt Tryd.f62 [1, 1, 0, 1, 0, 0]
theorem r62_3_ok : dstOk 60 r62_3.toList = true ∧ r62_3.toList.all (fun o => noDefer o.op) = true := by decide +kernel
noncomputable def r62_4 : Array Oper := opsAt Tryd.f62 [1, 1, 1, 0, 0]
theorem r62_4_ok : dstOk 60 r62_4.toList = true ∧ r62_4.toList.all (fun o => noDefer o.op) = true := by decide +kernel
noncomputable def r62_5 : Array Oper := opsAt Tryd.f62 [1, 1, 1, 0, 1, 0, 0]
theorem r62_5_ok : dstOk 60 r62_5.toList = true ∧ r62_5.toList.all (fun o => noDefer o.op) = true := by decide +kernel
noncomputable def r62_6 : Array Oper := opsAt Tryd.f62 [1, 1, 1, 1, 0]
theorem r62_6_ok : dstOk 60 r62_6.toList = true ∧ r62_6.toList.all (fun o => noDefer o.op) = true := by decide +kernel
noncomputable def r62_7 : Array Oper := opsAt Tryd.f62 [1, 1, 1, 1, 1, 0, 0]
theorem r62_7_ok : dstOk 60 r62_7.toList = true ∧ r62_7.toList.all (fun o => noDefer o.op) = true := by decide +kernel
noncomputable def r62_8 : Array Oper := opsAt Tryd.f62 [1, 1, 1, 1, 1, 0, 1, 0, 0]
theorem r62_8_ok : dstOk 60 r62_8.toList = true ∧ r62_8.toList.all (fun o => noDefer o.op) = true := by decide +kernel
noncomputable def r62_9 : Array Oper := opsAt Tryd.f62 [1, 1, 1, 1, 1, 1, 0]
theorem r62_9_ok : dstOk 60 r62_9.toList = true ∧ r62_9.toList.all (fun o => noDefer o.op) = true := by decide +kernel
noncomputable def c62 : Code := (.seq (.region 0 r62_0 false) (.seq (.region 1 r62_1 false) (.seq (.seq (.region 2 r62_2 false) (.cond (.tmp 21) (.seq (.region 3 r62_3 false) .ret) .skip)) (.seq (.seq (.region 4 r62_4 false) (.cond (.tmp 36) (.seq (.region 5 r62_5 false) .ret) .skip)) (.seq (.region 6 r62_6 false) (.seq (.seq (.region 7 r62_7 false) (.cond (.tmp 43) (.seq (.region 8 r62_8 false) .ret) .skip)) (.seq (.region 9 r62_9 false) .ret)))))))
theorem body62 : Tryd.f62.body = some c62 := by kernel_rfl
theorem yearly_ok (day frm to : Int) (hf : -9223372036854775808 ≤ frm ∧ frm ≤ 9223372036854775807) (ht : -9223372036854775808 ≤ to ∧ to ≤ 9223372036854775807) : PureCall Tryd.prog GL 62 [.raw (.int .i64 day), .raw (.int .i64 frm), .raw (.int .i64 to)] (.tup [.raw (.bool (yrB day frm to)), .raw (.int .i64 (yrE day frm to))]) := by
  refine pure_of_body Tryd.func62 body62 (Nat.le_of_ble_eq_true rfl) (by simp) (by simp) ?_
  refine w_keep [(0, .raw (.int .i64 day)), (1, .raw (.int .i64 frm)), (2, .raw (.int .i64 to))] ⟨rfl, rfl, rfl, trivial⟩ ?_
  unfold c62
  have hw := wi_iff day 730484; have hdb := date_bd day
  refine awp_seq ?_
  refine w_reg (l := r62_0.toList) rfl r62_0_ok ?_
  refine a_op rfl (o_as rfl) ?_
  refine a_op rfl (o_as rfl) ?_
  refine a_nil ?_
  refine tq_n ?_
  refine awp_seq ?_
  refine w_reg (l := r62_1.toList) rfl r62_1_ok ?_
  refine a_op rfl (o_mv rfl) ?_
  refine a_pure rfl rfl rfl cb20 (date_ok _) ?_
  refine a_op rfl (o_mv rfl) ?_
  refine a_op rfl (o_ex rfl rfl) ?_
  refine a_op rfl (o_ex rfl rfl) ?_
  refine a_op rfl (o_ex rfl rfl) ?_
  refine a_op rfl (o_ex rfl rfl) ?_
  refine a_op rfl (o_as rfl) ?_
  refine a_op rfl (o_as rfl) ?_
  refine a_op rfl (o_as rfl) ?_
  refine a_op rfl (o_as rfl) ?_
  refine a_nil ?_
  refine tq_n ?_
  refine awp_seq ?_
  refine awp_seq ?_
  refine w_reg (l := r62_2.toList) rfl r62_2_ok ?_
  refine a_op rfl (o_mv rfl) ?_
  refine a_if rfl (o_ne rfl rfl) (fun h1 => ?_) (fun h2 => ?_)
  · refine a_nil ?_
    refine tq_n ?_
    refine w_true rfl ?_
    refine awp_seq ?_
    refine w_reg (l := r62_3.toList) rfl r62_3_ok ?_
    refine a_op rfl (o_mv rfl) ?_
    refine a_op rfl (o_as rfl) ?_
    refine a_op rfl (o_as rfl) ?_
    refine a_nil ?_
    refine tq_n ?_
    refine awp_ret ?_
    refine tq_r ?_
    refine r_tup (xs := []) rfl ⟨rfl, rfl, trivial⟩ ?_
    clear hw hdb
    exact rs_tup ⟨rs_dec (by simp [yrE, now, *] <;> omega), rs_int (by simp [yrE, *]), trivial⟩
  · refine a_nil ?_
    refine tq_n ?_
    refine w_false rfl ?_
    refine awp_skip ?_
    refine tq_n ?_
    refine awp_seq ?_
    refine awp_seq ?_
    refine w_reg (l := r62_4.toList) rfl r62_4_ok ?_
    refine a_op rfl (o_mv rfl) ?_
    refine a_op rfl (o_quot rfl rfl (by omega) (by simp only [klo, khi]; omega)) ?_
    refine a_op rfl (o_mv rfl) ?_
    refine a_op rfl (o_remt rfl rfl (by omega)) ?_
    refine a_pureb rfl rfl rfl cb40 (dated_ok _ _ _) (fun h3 => ?_) (fun h4 => ?_)
    · refine a_op rfl (o_ntt rfl) ?_
      refine a_op rfl (o_mv rfl) ?_
      refine a_op rfl (o_mv rfl) ?_
      refine a_op rfl (o_quot rfl rfl (by omega) (by simp only [klo, khi]; omega)) ?_
      refine a_op rfl (o_mv rfl) ?_
      refine a_op rfl (o_remt rfl rfl (by omega)) ?_
      refine a_pureb rfl rfl rfl cb40 (dated_ok _ _ _) (fun h5 => ?_) (fun h6 => ?_)
      · refine a_op rfl (o_ntt rfl) ?_
        refine a_op rfl (o_pkf rfl rfl) ?_
        refine a_nil ?_
        refine tq_n ?_
        refine w_false rfl ?_
        refine awp_skip ?_
        refine tq_n ?_
        refine awp_seq ?_
        refine w_reg (l := r62_6.toList) rfl r62_6_ok ?_
        refine a_op rfl (o_mv rfl) ?_
        refine a_op rfl (o_mul rfl rfl (by simp only [klo, khi]; omega)) ?_
        refine a_op rfl (o_mv rfl) ?_
        refine a_op rfl (o_add rfl rfl (by simp only [klo, khi]; omega)) ?_
        refine a_op rfl (o_as rfl) ?_
        refine a_nil ?_
        refine tq_n ?_
        refine awp_seq ?_
        refine awp_seq ?_
        refine w_reg (l := r62_7.toList) rfl r62_7_ok ?_
        refine a_op rfl (o_mv rfl) ?_
        refine a_op rfl (o_mv rfl) ?_
        refine a_if rfl (o_gt rfl rfl) (fun h7 => ?_) (fun h8 => ?_)
        · refine a_nil ?_
          refine tq_n ?_
          refine w_true rfl ?_
          refine awp_seq ?_
          refine w_reg (l := r62_8.toList) rfl r62_8_ok ?_
          refine a_op rfl (o_mv rfl) ?_
          refine a_op rfl (o_mv rfl) ?_
          refine a_if rfl (o_ge rfl rfl) (fun h9 => ?_) (fun h10 => ?_)
          · refine a_op rfl (o_mv rfl) ?_
            refine a_off rfl ?_
            refine a_off rfl ?_
            refine a_off rfl ?_
            refine a_op rfl (o_pkt rfl rfl) ?_
            refine a_op rfl (o_as rfl) ?_
            refine a_op rfl (o_as rfl) ?_
            refine a_nil ?_
            refine tq_n ?_
            refine awp_ret ?_
            refine tq_r ?_
            refine r_tup (xs := []) rfl ⟨rfl, rfl, trivial⟩ ?_
            clear hw hdb
            exact rs_tup ⟨rs_dec (by simp [yrE, now, *] <;> omega), rs_int (by simp [yrE, *]), trivial⟩
          · refine a_op rfl (o_mv rfl) ?_
            refine a_op rfl (o_mv rfl) ?_
            refine a_op rfl (o_mv rfl) ?_
            refine a_op rfl (o_le rfl rfl) ?_
            refine a_op rfl (o_pkf rfl rfl) ?_
            refine a_op rfl (o_as rfl) ?_
            refine a_op rfl (o_as rfl) ?_
            refine a_nil ?_
            refine tq_n ?_
            refine awp_ret ?_
            refine tq_r ?_
            refine r_tup (xs := []) rfl ⟨rfl, rfl, trivial⟩ ?_
            clear hw hdb
            exact rs_tup ⟨rs_dec (by simp [yrE, now, *] <;> omega), rs_int (by simp [yrE, *]), trivial⟩
        · refine a_nil ?_
          refine tq_n ?_
          refine w_false rfl ?_
          refine awp_skip ?_
          refine tq_n ?_
          refine awp_seq ?_
          refine w_reg (l := r62_9.toList) rfl r62_9_ok ?_
          refine a_op rfl (o_mv rfl) ?_
          refine a_op rfl (o_mv rfl) ?_
          refine a_if rfl (o_ge rfl rfl) (fun h11 => ?_) (fun h12 => ?_)
          · refine a_op rfl (o_mv rfl) ?_
            refine a_op rfl (o_mv rfl) ?_
            refine a_op rfl (o_mv rfl) ?_
            refine a_op rfl (o_le rfl rfl) ?_
            refine a_op rfl (o_pkt rfl rfl) ?_
            refine a_op rfl (o_as rfl) ?_
            refine a_op rfl (o_as rfl) ?_
            refine a_nil ?_
            refine tq_n ?_
            refine awp_ret ?_
            refine r_tup (xs := []) rfl ⟨rfl, rfl, trivial⟩ ?_
            clear hw hdb
            exact rs_tup ⟨rs_dec (by simp [yrE, now, *] <;> omega), rs_int (by simp [yrE, *]), trivial⟩
          · refine a_op rfl (o_mv rfl) ?_
            refine a_off rfl ?_
            refine a_off rfl ?_
            refine a_off rfl ?_
            refine a_op rfl (o_pkf rfl rfl) ?_
            refine a_op rfl (o_as rfl) ?_
            refine a_op rfl (o_as rfl) ?_
            refine a_nil ?_
            refine tq_n ?_
            refine awp_ret ?_
            refine r_tup (xs := []) rfl ⟨rfl, rfl, trivial⟩ ?_
            clear hw hdb
            exact rs_tup ⟨rs_dec (by simp [yrE, now, *] <;> omega), rs_int (by simp [yrE, *]), trivial⟩
      · refine a_op rfl (o_ntf rfl) ?_
        refine a_op rfl (o_pkf rfl rfl) ?_
        refine a_nil ?_
        refine tq_n ?_
        refine w_true rfl ?_
        refine awp_seq ?_
        refine w_reg (l := r62_5.toList) rfl r62_5_ok ?_
        refine a_op rfl (o_as rfl) ?_
        refine a_op rfl (o_as rfl) ?_
        refine a_nil ?_
        refine tq_n ?_
        refine awp_ret ?_
        refine tq_r ?_
        refine r_tup (xs := []) rfl ⟨rfl, rfl, trivial⟩ ?_
        clear hw hdb
        exact rs_tup ⟨rs_dec (by simp [yrE, now, *] <;> omega), rs_int (by simp [yrE, *]), trivial⟩
    · refine a_op rfl (o_ntf rfl) ?_
      refine a_op rfl (o_mv rfl) ?_
      refine a_off rfl ?_
      refine a_off rfl ?_
      refine a_off rfl ?_
      refine a_off rfl ?_
      refine a_off rfl ?_
      refine a_off rfl ?_
      refine a_op rfl (o_pkt rfl rfl) ?_
      refine a_nil ?_
      refine tq_n ?_
      refine w_true rfl ?_
      refine awp_seq ?_
      refine w_reg (l := r62_5.toList) rfl r62_5_ok ?_
      refine a_op rfl (o_as rfl) ?_
      refine a_op rfl (o_as rfl) ?_
      refine a_nil ?_
      refine tq_n ?_
      refine awp_ret ?_
      refine tq_r ?_
      refine r_tup (xs := []) rfl ⟨rfl, rfl, trivial⟩ ?_
      clear hw hdb
      exact rs_tup ⟨rs_dec (by simp [yrE, now, *] <;> omega), rs_int (by simp [yrE, *]), trivial⟩
end Go.Ab.D
