/- What functions of this program compute, and the laws of what they compute, under the bounds on lengths that each contract states. -/
import Derived.Test.YtghoaglolhdoeaaDoorD13
namespace Go.Ab.D
open Go Go.Ab Go.Proofs

noncomputable def r6_0 : Array Oper := opsAt Tryd.f6 [0]
theorem r6_0_ok : dstOk 109 r6_0.toList = true ∧ r6_0.toList.all (fun o => noDefer o.op) = true := by decide +kernel
noncomputable def r6_1 : Array Oper := opsAt Tryd.f6 [1, 0]
theorem r6_1_ok : dstOk 109 r6_1.toList = true ∧ r6_1.toList.all (fun o => noDefer o.op) = true := by decide +kernel
noncomputable def r6_2 : Array Oper := opsAt Tryd.f6 [1, 1, 0]
theorem r6_2_ok : dstOk 109 r6_2.toList = true ∧ r6_2.toList.all (fun o => noDefer o.op) = true := by decide +kernel
noncomputable def r6_3 : Array Oper := opsAt Tryd.f6 [1, 1, 1, 0, 0]
theorem r6_3_ok : dstOk 109 r6_3.toList = true ∧ r6_3.toList.all (fun o => noDefer o.op) = true := by decide +kernel
noncomputable def r6_4 : Array Oper := opsAt Tryd.f6 [1, 1, 1, 0, 1, 0, 0, 0]
theorem r6_4_ok : dstOk 109 r6_4.toList = true ∧ r6_4.toList.all (fun o => noDefer o.op) = true := by decide +kernel
noncomputable def r6_5 : Array Oper := opsAt Tryd.f6 [1, 1, 1, 0, 1, 0, 0, 1, 1, 0, 0, 0]
theorem r6_5_ok : dstOk 109 r6_5.toList = true ∧ r6_5.toList.all (fun o => noDefer o.op) = true := by decide +kernel
noncomputable def r6_6 : Array Oper := opsAt Tryd.f6 [1, 1, 1, 0, 1, 0, 0, 1, 1, 0, 0, 1, 0]
theorem r6_6_ok : dstOk 109 r6_6.toList = true ∧ r6_6.toList.all (fun o => noDefer o.op) = true := by decide +kernel
noncomputable def r6_7 : Array Oper := opsAt Tryd.f6 [1, 1, 1, 0, 1, 0, 0, 1, 1, 0, 0, 1, 1, 0, 0]
theorem r6_7_ok : dstOk 109 r6_7.toList = true ∧ r6_7.toList.all (fun o => noDefer o.op) = true := by decide +kernel
noncomputable def r6_8 : Array Oper := opsAt Tryd.f6 [1, 1, 1, 0, 1, 0, 0, 1, 1, 0, 0, 1, 1, 0, 1, 0]
theorem r6_8_ok : dstOk 109 r6_8.toList = true ∧ r6_8.toList.all (fun o => noDefer o.op) = true := by decide +kernel
noncomputable def r6_9 : Array Oper := opsAt Tryd.f6 [1, 1, 1, 0, 1, 0, 0, 1, 1, 0, 0, 1, 1, 0, 1, 1, 0]
theorem r6_9_ok : dstOk 109 r6_9.toList = true ∧ r6_9.toList.all (fun o => noDefer o.op) = true := by decide +kernel
noncomputable def r6_10 : Array Oper := opsAt Tryd.f6 [1, 1, 1, 0, 1, 0, 0, 1, 1, 0, 0, 1, 1, 0, 1, 1, 1, 0]
theorem r6_10_ok : dstOk 109 r6_10.toList = true ∧ r6_10.toList.all (fun o => noDefer o.op) = true := by decide +kernel
noncomputable def r6_11 : Array Oper := opsAt Tryd.f6 [1, 1, 1, 0, 1, 0, 0, 1, 1, 1]
theorem r6_11_ok : dstOk 109 r6_11.toList = true ∧ r6_11.toList.all (fun o => noDefer o.op) = true := by decide +kernel
noncomputable def b6_0 : Code := (.seq (.region 4 r6_4 false) (.seq (.cond (.tmp 26) .skip (.exit 0)) (.seq (.block 1 (.seq (.region 5 r6_5 false) (.seq (.region 6 r6_6 false) (.block 2 (.seq (.region 7 r6_7 false) (.cond (.tmp 31) (.region 8 r6_8 false) (.seq (.region 9 r6_9 false) (.cond (.tmp 37) (.region 10 r6_10 false) .skip)))))))) (.region 11 r6_11 false))))
noncomputable def r6_12 : Array Oper := opsAt Tryd.f6 [1, 1, 1, 1, 0]
theorem r6_12_ok : dstOk 109 r6_12.toList = true ∧ r6_12.toList.all (fun o => noDefer o.op) = true := by decide +kernel
noncomputable def r6_13 : Array Oper := opsAt Tryd.f6 [1, 1, 1, 1, 1, 0]
theorem r6_13_ok : dstOk 109 r6_13.toList = true ∧ r6_13.toList.all (fun o => noDefer o.op) = true := by decide +kernel
noncomputable def r6_14 : Array Oper := opsAt Tryd.f6 [1, 1, 1, 1, 1, 1, 0]
theorem r6_14_ok : dstOk 109 r6_14.toList = true ∧ r6_14.toList.all (fun o => noDefer o.op) = true := by decide +kernel
noncomputable def r6_15 : Array Oper := opsAt Tryd.f6 [1, 1, 1, 1, 1, 1, 1, 0, 0]
theorem r6_15_ok : dstOk 109 r6_15.toList = true ∧ r6_15.toList.all (fun o => noDefer o.op) = true := by decide +kernel
noncomputable def r6_16 : Array Oper := opsAt Tryd.f6 [1, 1, 1, 1, 1, 1, 1, 0, 1, 0, 0]
theorem r6_16_ok : dstOk 109 r6_16.toList = true ∧ r6_16.toList.all (fun o => noDefer o.op) = true := by decide +kernel
noncomputable def r6_17 : Array Oper := opsAt Tryd.f6 [1, 1, 1, 1, 1, 1, 1, 1, 0, 0]
theorem r6_17_ok : dstOk 109 r6_17.toList = true ∧ r6_17.toList.all (fun o => noDefer o.op) = true := by decide +kernel
noncomputable def r6_18 : Array Oper := opsAt Tryd.f6 [1, 1, 1, 1, 1, 1, 1, 1, 0, 1, 0, 0, 0]
theorem r6_18_ok : dstOk 109 r6_18.toList = true ∧ r6_18.toList.all (fun o => noDefer o.op) = true := by decide +kernel
noncomputable def r6_19 : Array Oper := opsAt Tryd.f6 [1, 1, 1, 1, 1, 1, 1, 1, 0, 1, 0, 0, 1, 1, 0, 0, 0]
theorem r6_19_ok : dstOk 109 r6_19.toList = true ∧ r6_19.toList.all (fun o => noDefer o.op) = true := by decide +kernel
noncomputable def r6_20 : Array Oper := opsAt Tryd.f6 [1, 1, 1, 1, 1, 1, 1, 1, 0, 1, 0, 0, 1, 1, 0, 0, 1, 0, 0]
theorem r6_20_ok : dstOk 109 r6_20.toList = true ∧ r6_20.toList.all (fun o => noDefer o.op) = true := by decide +kernel
noncomputable def r6_21 : Array Oper := opsAt Tryd.f6 [1, 1, 1, 1, 1, 1, 1, 1, 0, 1, 0, 0, 1, 1, 0, 0, 1, 0, 1, 0, 0]
theorem r6_21_ok : dstOk 109 r6_21.toList = true ∧ r6_21.toList.all (fun o => noDefer o.op) = true := by decide +kernel
noncomputable def r6_22 : Array Oper := opsAt Tryd.f6 [1, 1, 1, 1, 1, 1, 1, 1, 0, 1, 0, 0, 1, 1, 0, 0, 1, 1, 0]
theorem r6_22_ok : dstOk 109 r6_22.toList = true ∧ r6_22.toList.all (fun o => noDefer o.op) = true := by decide +kernel
noncomputable def r6_23 : Array Oper := opsAt Tryd.f6 [1, 1, 1, 1, 1, 1, 1, 1, 0, 1, 0, 0, 1, 1, 0, 0, 1, 1, 1, 0, 0]
theorem r6_23_ok : dstOk 109 r6_23.toList = true ∧ r6_23.toList.all (fun o => noDefer o.op) = true := by decide +kernel
noncomputable def r6_24 : Array Oper := opsAt Tryd.f6 [1, 1, 1, 1, 1, 1, 1, 1, 0, 1, 0, 0, 1, 1, 1]
theorem r6_24_ok : dstOk 109 r6_24.toList = true ∧ r6_24.toList.all (fun o => noDefer o.op) = true := by decide +kernel
noncomputable def b6_1 : Code := (.seq (.region 18 r6_18 false) (.seq (.cond (.tmp 72) .skip (.exit 3)) (.seq (.block 4 (.seq (.region 19 r6_19 false) (.seq (.seq (.region 20 r6_20 true) (.cond (.tmp 87) (.seq (.region 21 r6_21 false) .ret) .skip)) (.seq (.region 22 r6_22 true) (.cond (.tmp 106) (.seq (.region 23 r6_23 false) .ret) .skip))))) (.region 24 r6_24 false))))
noncomputable def r6_25 : Array Oper := opsAt Tryd.f6 [1, 1, 1, 1, 1, 1, 1, 1, 1, 0]
theorem r6_25_ok : dstOk 109 r6_25.toList = true ∧ r6_25.toList.all (fun o => noDefer o.op) = true := by decide +kernel
noncomputable def c6 : Code := (.seq (.region 0 r6_0 false) (.seq (.region 1 r6_1 false) (.seq (.region 2 r6_2 false) (.seq (.seq (.region 3 r6_3 false) (.block 0 (.loop b6_0))) (.seq (.region 12 r6_12 false) (.seq (.region 13 r6_13 false) (.seq (.region 14 r6_14 false) (.seq (.seq (.region 15 r6_15 false) (.cond (.tmp 67) (.seq (.region 16 r6_16 false) .ret) .skip)) (.seq (.seq (.region 17 r6_17 false) (.block 3 (.loop b6_1))) (.seq (.region 25 r6_25 false) .ret))))))))))
theorem body6 : Tryd.f6.body = some c6 := by kernel_rfl
set_option maxHeartbeats 4000000 in
theorem years_ok (b0 : Bool) (l : List NoteR) (hl0 : l.length ≤ 9223372036854775807) (hx : ∀ x ∈ l, x.ok) (day : Int) (hd : 0 ≤ day ∧ day ≤ 65535) (year : Int) (hy : 0 ≤ year ∧ year ≤ 65535) : PureCall Tryd.prog GL 6 [.sl 4 b0 (l.map noteAV), .raw (.int .u16 day), .raw (.int .u16 year)] (.raw (.bool true)) := by
  refine pure_of_body Tryd.func6 body6 (Nat.le_of_ble_eq_true rfl) (by simp) (by simp) ?_
  refine w_keep [(0, .sl 4 b0 (l.map noteAV)), (1, .raw (.int .u16 day)), (2, .raw (.int .u16 year))] ⟨rfl, rfl, rfl, trivial⟩ ?_
  unfold c6
  have hR := rulesF_len l; have hRx := rulesF_ok hx; have h6 := sixL_len 6
  obtain ⟨hwi, hF2, hL0, hL1, hlaw⟩ := years_law (rulesF l) (rulesF l).length (day % 365) (2001 + year % 2000) (by omega) (by omega) (by omega) (by omega)
  have hdb := date_bd (day % 365)
  refine awp_seq ?_
  refine w_reg (l := r6_0.toList) rfl r6_0_ok ?_
  refine a_op rfl (o_as rfl) ?_
  refine a_nil ?_
  refine tq_n ?_
  refine awp_seq ?_
  refine w_reg (l := r6_1.toList) rfl r6_1_ok ?_
  refine a_pure rfl rfl rfl cb11 (six_ok) ?_
  refine a_op rfl (o_al (N := 0) tz30 rfl rfl rfl) ?_
  refine a_op0 rfl (o_st (N := 3) tn30 rfl rfl (by first | exact good_slo rfl | rfl | (simp [AV.goodPart, AV.good, AV.isCell, fresh, nilS, Value.oneCell']; done)) rfl rfl) ?_
  refine a_nil ?_
  refine tq_n ?_
  refine awp_seq ?_
  refine w_reg (l := r6_2.toList) rfl r6_2_ok ?_
  refine a_op rfl (o_as rfl) ?_
  refine a_op rfl (o_as rfl) ?_
  refine a_nil ?_
  refine tq_n ?_
  refine awp_seq ?_
  refine awp_seq ?_
  refine w_own (q := 8) (z := 5) (N := 1) (by decide) rfl rfl rfl ?_
  refine w_own (q := 9) (z := 5) (N := 2) (by decide) rfl rfl rfl ?_
  refine w_reg (l := r6_3.toList) rfl r6_3_ok ?_
  refine a_op rfl (o_mv rfl) ?_
  refine a_pure rfl rfl rfl cb12 (rules_ok _ _ (by omega) hx) ?_
  refine a_op rfl (o_len rfl rfl (by first | exact List.length_map .. | rfl) tl32) ?_
  refine a_op rfl (o_mv rfl) ?_
  refine a_nil ?_
  refine tq_n ?_
  refine awp_block ?_
  refine w_loop (fun k : Nat => k ≤ (rulesF l).length) (fun kA => [(1, .raw (.int .u16 day)), (2, .raw (.int .u16 year)), (7, .ptr 0 0), (8, .slo 1 ((kF (rulesF l) 1 kA).length) 0 ((kF (rulesF l) 1 kA).length)), (9, .slo 2 ((kF (rulesF l) 3 kA).length) 0 ((kF (rulesF l) 3 kA).length)), (23, .sl 5 false ((rulesF l).map ruleAV)), (24, .raw (.int .i64 (((rulesF l).length : Nat) : Int))), (25, .raw (.int .i64 ((kA : Nat) : Int)))]) (fun kA => [.var [nilS, nilS, nilS, .sl 8 false ((sixL 6).map ptAV)], .vec 5 ((kF (rulesF l) 1 kA).length) ((kF (rulesF l) 1 kA).map ruleAV), .vec 5 ((kF (rulesF l) 3 kA).length) ((kF (rulesF l) 3 kA).map ruleAV)]) (fun k => (rulesF l).length - k) (0) (by omega) ⟨(by first | exact sub_int rfl (by omega) | rfl | exact sub_eq rfl (by rw [kF_succ (by omega)]; simp [*])), (by first | exact sub_int rfl (by omega) | rfl | exact sub_eq rfl (by rw [kF_succ (by omega)]; simp [*])), (by first | exact sub_int rfl (by omega) | rfl | exact sub_eq rfl (by rw [kF_succ (by omega)]; simp [*])), (by first | exact sub_int rfl (by omega) | rfl | exact sub_eq rfl (by rw [kF_succ (by omega)]; simp [*])), (by first | exact sub_int rfl (by omega) | rfl | exact sub_eq rfl (by rw [kF_succ (by omega)]; simp [*])), (by first | exact sub_int rfl (by omega) | rfl | exact sub_eq rfl (by rw [kF_succ (by omega)]; simp [*])), (by first | exact sub_int rfl (by omega) | rfl | exact sub_eq rfl (by rw [kF_succ (by omega)]; simp [*])), (by first | exact sub_int rfl (by omega) | rfl | exact sub_eq rfl (by rw [kF_succ (by omega)]; simp [*])), trivial⟩ rfl ?_
  intro kA hA
  have hb1 := kF_bd (rulesF l) 1 kA
  have hb3 := kF_bd (rulesF l) 3 kA
  unfold b6_0
  refine awp_seq ?_
  refine w_reg (l := r6_4.toList) rfl r6_4_ok ?_
  refine a_if rfl (o_lt rfl rfl) (fun h1 => ?_) (fun h2 => ?_)
  · refine a_nil ?_
    refine tq_n ?_
    refine awp_seq ?_
    refine w_true rfl ?_
    refine awp_skip ?_
    refine tq_n ?_
    refine awp_seq ?_
    refine awp_block ?_
    refine awp_seq ?_
    have hA2 : kA < (rulesF l).length := by omega
    refine w_reg (l := r6_5.toList) rfl r6_5_ok ?_
    refine a_op rfl (o_ix te32 tn37 rfl rfl rfl (ixm _ _ _ hA2)) ?_
    refine a_op rfl ((by first | exact o_ldg tg37 tn37 rfl rfl | exact o_ldpg tg37 tn37 rfl rfl rfl rfl)) ?_
    refine a_op rfl (o_al (N := 3) tz37 rfl rfl rfl) ?_
    refine a_op0 rfl (o_st (N := 4) tn37 rfl rfl (by first | exact good_slo rfl | rfl | (simp [AV.goodPart, AV.good, AV.isCell, fresh, nilS, Value.oneCell']; done)) rfl rfl) ?_
    refine a_nil ?_
    refine tq_n ?_
    refine awp_seq ?_
    refine w_reg (l := r6_6.toList) rfl r6_6_ok ?_
    refine a_op rfl ((by first | exact o_fa tf37_1 rfl rfl | exact o_fap tf37_1 rfl rfl)) ?_
    refine a_op rfl ((by first | exact o_ld tg5 rfl rfl | exact o_ldp tg5 rfl rfl rfl rfl)) ?_
    refine a_nil ?_
    refine tq_n ?_
    refine awp_block ?_
    refine awp_seq ?_
    refine w_reg (l := r6_7.toList) rfl r6_7_ok ?_
    refine a_if rfl (o_eq rfl rfl) (fun h3 => ?_) (fun h4 => ?_)
    · refine a_op rfl (o_as rfl) ?_
      refine a_nil ?_
      refine tq_n ?_
      refine w_true rfl ?_
      refine w_reg (l := r6_8.toList) rfl r6_8_ok ?_
      refine a_op rfl (o_mv rfl) ?_
      refine a_op rfl ((by first | exact o_ldg tg37 tn37 rfl rfl | exact o_ldpg tg37 tn37 rfl rfl rfl rfl)) ?_
      refine a_op rfl (o_bs tE32 (by decide) rfl rfl rfl) ?_
      refine a_op rfl (o_ap tE32 rfl rfl (by simp) rfl rfl rfl (by simp; omega) (by simp; omega) rfl rfl rfl rfl) ?_
      refine a_op rfl (o_as rfl) ?_
      refine a_nil ?_
      refine bq_n ?_
      refine bq_n ?_
      refine tq_n ?_
      refine w_view [(1, .raw (.int .u16 day)), (2, .raw (.int .u16 year)), (7, .ptr 0 0), (8, .slo 1 ((kF (rulesF l) 1 kA).length + 1) 0 ((kF (rulesF l) 1 kA).length + 1)), (9, .slo 2 ((kF (rulesF l) 3 kA).length) 0 ((kF (rulesF l) 3 kA).length)), (23, .sl 5 false ((rulesF l).map ruleAV)), (24, .raw (.int .i64 (((rulesF l).length : Nat) : Int))), (25, .raw (.int .i64 ((kA : Nat) : Int)))] ([.var [nilS, nilS, nilS, .sl 8 false ((sixL 6).map ptAV)], .vec 5 ((kF (rulesF l) 1 kA).length + 1) ((kF (rulesF l) 1 kA).map ruleAV ++ [ruleAV ((rulesF l)[kA]'hA2)]), .vec 5 ((kF (rulesF l) 3 kA).length) ((kF (rulesF l) 3 kA).map ruleAV)]) 3 rfl (Nat.le_of_ble_eq_true rfl) (Nat.le_of_ble_eq_true rfl) ⟨⟨_, rfl, (by first | exact .sloK (Nat.le_of_ble_eq_true rfl) | exact .ptrK (Nat.le_of_ble_eq_true rfl) | exact rs_pur (by simp) rfl)⟩, ⟨_, rfl, (by first | exact .sloK (Nat.le_of_ble_eq_true rfl) | exact .ptrK (Nat.le_of_ble_eq_true rfl) | exact rs_pur (by simp) rfl)⟩, ⟨_, rfl, (by first | exact .sloK (Nat.le_of_ble_eq_true rfl) | exact .ptrK (Nat.le_of_ble_eq_true rfl) | exact rs_pur (by simp) rfl)⟩, ⟨_, rfl, (by first | exact .sloK (Nat.le_of_ble_eq_true rfl) | exact .ptrK (Nat.le_of_ble_eq_true rfl) | exact rs_pur (by simp) rfl)⟩, ⟨_, rfl, (by first | exact .sloK (Nat.le_of_ble_eq_true rfl) | exact .ptrK (Nat.le_of_ble_eq_true rfl) | exact rs_pur (by simp) rfl)⟩, ⟨_, rfl, (by first | exact .sloK (Nat.le_of_ble_eq_true rfl) | exact .ptrK (Nat.le_of_ble_eq_true rfl) | exact rs_pur (by simp) rfl)⟩, ⟨_, rfl, (by first | exact .sloK (Nat.le_of_ble_eq_true rfl) | exact .ptrK (Nat.le_of_ble_eq_true rfl) | exact rs_pur (by simp) rfl)⟩, ⟨_, rfl, (by first | exact .sloK (Nat.le_of_ble_eq_true rfl) | exact .ptrK (Nat.le_of_ble_eq_true rfl) | exact rs_pur (by simp) rfl)⟩, trivial⟩ ⟨ors_var ⟨rs_pur (by simp [nilS]) rfl, rs_pur (by simp [nilS]) rfl, rs_pur (by simp [nilS]) rfl, rs_pur (by simp) rfl, trivial⟩, ors_vec (by first | exact pmr _ | exact pms (pmr _) (by simp)), ors_vec (by first | exact pmr _ | exact pms (pmr _) (by simp)), trivial⟩ ?_
      refine w_reg (l := r6_11.toList) rfl r6_11_ok ?_
      refine a_op rfl (o_add rfl rfl (by simp only [klo, khi]; omega)) ?_
      refine a_op rfl (o_mv rfl) ?_
      refine a_nil ?_
      refine tq_n ?_
      exact ⟨kA + 1, ⟨by omega, by omega⟩, ⟨(by first | exact sub_int rfl (by omega) | rfl | exact sub_eq rfl (by rw [kF_succ (by omega)]; simp [*])), (by first | exact sub_int rfl (by omega) | rfl | exact sub_eq rfl (by rw [kF_succ (by omega)]; simp [*])), (by first | exact sub_int rfl (by omega) | rfl | exact sub_eq rfl (by rw [kF_succ (by omega)]; simp [*])), (by first | exact sub_int rfl (by omega) | rfl | exact sub_eq rfl (by rw [kF_succ (by omega)]; simp [*])), (by first | exact sub_int rfl (by omega) | rfl | exact sub_eq rfl (by rw [kF_succ (by omega)]; simp [*])), (by first | exact sub_int rfl (by omega) | rfl | exact sub_eq rfl (by rw [kF_succ (by omega)]; simp [*])), (by first | exact sub_int rfl (by omega) | rfl | exact sub_eq rfl (by rw [kF_succ (by omega)]; simp [*])), (by first | exact sub_int rfl (by omega) | rfl | exact sub_eq rfl (by rw [kF_succ (by omega)]; simp [*])), trivial⟩, by rw [kF_succ (by omega), kF_succ (by omega)]; simp [*]; try rfl⟩
    refine a_op rfl (o_as rfl) ?_
    refine a_nil ?_
    refine tq_n ?_
    refine w_false rfl ?_
    refine awp_seq ?_
    refine w_reg (l := r6_9.toList) rfl r6_9_ok ?_
    refine a_if rfl (o_eq rfl rfl) (fun h5 => ?_) (fun h6 => ?_)
    · refine a_op rfl (o_as rfl) ?_
      refine a_nil ?_
      refine tq_n ?_
      refine w_true rfl ?_
      refine w_reg (l := r6_10.toList) rfl r6_10_ok ?_
      refine a_op rfl (o_mv rfl) ?_
      refine a_op rfl ((by first | exact o_ldg tg37 tn37 rfl rfl | exact o_ldpg tg37 tn37 rfl rfl rfl rfl)) ?_
      refine a_op rfl (o_bs tE32 (by decide) rfl rfl rfl) ?_
      refine a_op rfl (o_ap tE32 rfl rfl (by simp) rfl rfl rfl (by simp; omega) (by simp; omega) rfl rfl rfl rfl) ?_
      refine a_op rfl (o_as rfl) ?_
      refine a_nil ?_
      refine bq_n ?_
      refine bq_n ?_
      refine tq_n ?_
      refine w_view [(1, .raw (.int .u16 day)), (2, .raw (.int .u16 year)), (7, .ptr 0 0), (8, .slo 1 ((kF (rulesF l) 1 kA).length) 0 ((kF (rulesF l) 1 kA).length)), (9, .slo 2 ((kF (rulesF l) 3 kA).length + 1) 0 ((kF (rulesF l) 3 kA).length + 1)), (23, .sl 5 false ((rulesF l).map ruleAV)), (24, .raw (.int .i64 (((rulesF l).length : Nat) : Int))), (25, .raw (.int .i64 ((kA : Nat) : Int)))] ([.var [nilS, nilS, nilS, .sl 8 false ((sixL 6).map ptAV)], .vec 5 ((kF (rulesF l) 1 kA).length) ((kF (rulesF l) 1 kA).map ruleAV), .vec 5 ((kF (rulesF l) 3 kA).length + 1) ((kF (rulesF l) 3 kA).map ruleAV ++ [ruleAV ((rulesF l)[kA]'hA2)])]) 3 rfl (Nat.le_of_ble_eq_true rfl) (Nat.le_of_ble_eq_true rfl) ⟨⟨_, rfl, (by first | exact .sloK (Nat.le_of_ble_eq_true rfl) | exact .ptrK (Nat.le_of_ble_eq_true rfl) | exact rs_pur (by simp) rfl)⟩, ⟨_, rfl, (by first | exact .sloK (Nat.le_of_ble_eq_true rfl) | exact .ptrK (Nat.le_of_ble_eq_true rfl) | exact rs_pur (by simp) rfl)⟩, ⟨_, rfl, (by first | exact .sloK (Nat.le_of_ble_eq_true rfl) | exact .ptrK (Nat.le_of_ble_eq_true rfl) | exact rs_pur (by simp) rfl)⟩, ⟨_, rfl, (by first | exact .sloK (Nat.le_of_ble_eq_true rfl) | exact .ptrK (Nat.le_of_ble_eq_true rfl) | exact rs_pur (by simp) rfl)⟩, ⟨_, rfl, (by first | exact .sloK (Nat.le_of_ble_eq_true rfl) | exact .ptrK (Nat.le_of_ble_eq_true rfl) | exact rs_pur (by simp) rfl)⟩, ⟨_, rfl, (by first | exact .sloK (Nat.le_of_ble_eq_true rfl) | exact .ptrK (Nat.le_of_ble_eq_true rfl) | exact rs_pur (by simp) rfl)⟩, ⟨_, rfl, (by first | exact .sloK (Nat.le_of_ble_eq_true rfl) | exact .ptrK (Nat.le_of_ble_eq_true rfl) | exact rs_pur (by simp) rfl)⟩, ⟨_, rfl, (by first | exact .sloK (Nat.le_of_ble_eq_true rfl) | exact .ptrK (Nat.le_of_ble_eq_true rfl) | exact rs_pur (by simp) rfl)⟩, trivial⟩ ⟨ors_var ⟨rs_pur (by simp [nilS]) rfl, rs_pur (by simp [nilS]) rfl, rs_pur (by simp [nilS]) rfl, rs_pur (by simp) rfl, trivial⟩, ors_vec (by first | exact pmr _ | exact pms (pmr _) (by simp)), ors_vec (by first | exact pmr _ | exact pms (pmr _) (by simp)), trivial⟩ ?_
      refine w_reg (l := r6_11.toList) rfl r6_11_ok ?_
      refine a_op rfl (o_add rfl rfl (by simp only [klo, khi]; omega)) ?_
      refine a_op rfl (o_mv rfl) ?_
      refine a_nil ?_
      refine tq_n ?_
      exact ⟨kA + 1, ⟨by omega, by omega⟩, ⟨(by first | exact sub_int rfl (by omega) | rfl | exact sub_eq rfl (by rw [kF_succ (by omega)]; simp [*])), (by first | exact sub_int rfl (by omega) | rfl | exact sub_eq rfl (by rw [kF_succ (by omega)]; simp [*])), (by first | exact sub_int rfl (by omega) | rfl | exact sub_eq rfl (by rw [kF_succ (by omega)]; simp [*])), (by first | exact sub_int rfl (by omega) | rfl | exact sub_eq rfl (by rw [kF_succ (by omega)]; simp [*])), (by first | exact sub_int rfl (by omega) | rfl | exact sub_eq rfl (by rw [kF_succ (by omega)]; simp [*])), (by first | exact sub_int rfl (by omega) | rfl | exact sub_eq rfl (by rw [kF_succ (by omega)]; simp [*])), (by first | exact sub_int rfl (by omega) | rfl | exact sub_eq rfl (by rw [kF_succ (by omega)]; simp [*])), (by first | exact sub_int rfl (by omega) | rfl | exact sub_eq rfl (by rw [kF_succ (by omega)]; simp [*])), trivial⟩, by rw [kF_succ (by omega), kF_succ (by omega)]; simp [*]; try rfl⟩
    refine a_op rfl (o_as rfl) ?_
    refine a_nil ?_
    refine tq_n ?_
    refine w_false rfl ?_
    refine awp_skip ?_
    refine bq_n ?_
    refine bq_n ?_
    refine tq_n ?_
    refine w_view [(1, .raw (.int .u16 day)), (2, .raw (.int .u16 year)), (7, .ptr 0 0), (8, .slo 1 ((kF (rulesF l) 1 kA).length) 0 ((kF (rulesF l) 1 kA).length)), (9, .slo 2 ((kF (rulesF l) 3 kA).length) 0 ((kF (rulesF l) 3 kA).length)), (23, .sl 5 false ((rulesF l).map ruleAV)), (24, .raw (.int .i64 (((rulesF l).length : Nat) : Int))), (25, .raw (.int .i64 ((kA : Nat) : Int)))] ([.var [nilS, nilS, nilS, .sl 8 false ((sixL 6).map ptAV)], .vec 5 ((kF (rulesF l) 1 kA).length) ((kF (rulesF l) 1 kA).map ruleAV), .vec 5 ((kF (rulesF l) 3 kA).length) ((kF (rulesF l) 3 kA).map ruleAV)]) 3 rfl (Nat.le_of_ble_eq_true rfl) (Nat.le_of_ble_eq_true rfl) ⟨⟨_, rfl, (by first | exact .sloK (Nat.le_of_ble_eq_true rfl) | exact .ptrK (Nat.le_of_ble_eq_true rfl) | exact rs_pur (by simp) rfl)⟩, ⟨_, rfl, (by first | exact .sloK (Nat.le_of_ble_eq_true rfl) | exact .ptrK (Nat.le_of_ble_eq_true rfl) | exact rs_pur (by simp) rfl)⟩, ⟨_, rfl, (by first | exact .sloK (Nat.le_of_ble_eq_true rfl) | exact .ptrK (Nat.le_of_ble_eq_true rfl) | exact rs_pur (by simp) rfl)⟩, ⟨_, rfl, (by first | exact .sloK (Nat.le_of_ble_eq_true rfl) | exact .ptrK (Nat.le_of_ble_eq_true rfl) | exact rs_pur (by simp) rfl)⟩, ⟨_, rfl, (by first | exact .sloK (Nat.le_of_ble_eq_true rfl) | exact .ptrK (Nat.le_of_ble_eq_true rfl) | exact rs_pur (by simp) rfl)⟩, ⟨_, rfl, (by first | exact .sloK (Nat.le_of_ble_eq_true rfl) | exact .ptrK (Nat.le_of_ble_eq_true rfl) | exact rs_pur (by simp) rfl)⟩, ⟨_, rfl, (by first | exact .sloK (Nat.le_of_ble_eq_true rfl) | exact .ptrK (Nat.le_of_ble_eq_true rfl) | exact rs_pur (by simp) rfl)⟩, ⟨_, rfl, (by first | exact .sloK (Nat.le_of_ble_eq_true rfl) | exact .ptrK (Nat.le_of_ble_eq_true rfl) | exact rs_pur (by simp) rfl)⟩, trivial⟩ ⟨ors_var ⟨rs_pur (by simp [nilS]) rfl, rs_pur (by simp [nilS]) rfl, rs_pur (by simp [nilS]) rfl, rs_pur (by simp) rfl, trivial⟩, ors_vec (by first | exact pmr _ | exact pms (pmr _) (by simp)), ors_vec (by first | exact pmr _ | exact pms (pmr _) (by simp)), trivial⟩ ?_
    refine w_reg (l := r6_11.toList) rfl r6_11_ok ?_
    refine a_op rfl (o_add rfl rfl (by simp only [klo, khi]; omega)) ?_
    refine a_op rfl (o_mv rfl) ?_
    refine a_nil ?_
    refine tq_n ?_
    exact ⟨kA + 1, ⟨by omega, by omega⟩, ⟨(by first | exact sub_int rfl (by omega) | rfl | exact sub_eq rfl (by rw [kF_succ (by omega)]; simp [*])), (by first | exact sub_int rfl (by omega) | rfl | exact sub_eq rfl (by rw [kF_succ (by omega)]; simp [*])), (by first | exact sub_int rfl (by omega) | rfl | exact sub_eq rfl (by rw [kF_succ (by omega)]; simp [*])), (by first | exact sub_int rfl (by omega) | rfl | exact sub_eq rfl (by rw [kF_succ (by omega)]; simp [*])), (by first | exact sub_int rfl (by omega) | rfl | exact sub_eq rfl (by rw [kF_succ (by omega)]; simp [*])), (by first | exact sub_int rfl (by omega) | rfl | exact sub_eq rfl (by rw [kF_succ (by omega)]; simp [*])), (by first | exact sub_int rfl (by omega) | rfl | exact sub_eq rfl (by rw [kF_succ (by omega)]; simp [*])), (by first | exact sub_int rfl (by omega) | rfl | exact sub_eq rfl (by rw [kF_succ (by omega)]; simp [*])), trivial⟩, by rw [kF_succ (by omega), kF_succ (by omega)]; simp [*]; try rfl⟩
  refine a_nil ?_
  refine tq_n ?_
  refine awp_seq ?_
  refine w_false rfl ?_
  refine awp_exit ?_
  refine tq_x ?_
  refine tq_x ?_
  refine bq_hit ?_
  refine tq_n ?_
  refine awp_seq ?_
  have hkA : kA = (rulesF l).length := by omega
  subst hkA
  refine w_reg (l := r6_12.toList) rfl r6_12_ok ?_
  refine a_op rfl (o_mv rfl) ?_
  refine a_op rfl (o_rem rfl rfl (by omega) (by omega)) ?_
  refine a_op rfl (o_cv tk24 tk3 rfl (by simp only [klo, khi]; omega)) ?_
  refine a_op rfl (o_as rfl) ?_
  refine a_nil ?_
  refine tq_n ?_
  refine awp_seq ?_
  refine w_reg (l := r6_13.toList) rfl r6_13_ok ?_
  refine a_op rfl (o_mv rfl) ?_
  refine a_pure rfl rfl rfl cb20 (date_ok _) ?_
  refine a_op rfl (o_mv rfl) ?_
  refine a_op rfl (o_ex rfl rfl) ?_
  refine a_op rfl (o_ex rfl rfl) ?_
  refine a_op rfl (o_ex rfl rfl) ?_
  refine a_op rfl (o_ex rfl rfl) ?_
  refine a_op rfl (o_as rfl) ?_
  refine a_op rfl (o_as rfl) ?_
  refine a_op rfl (o_as rfl) ?_
  refine a_op rfl (o_as rfl) ?_
  refine a_nil ?_
  refine tq_n ?_
  refine awp_seq ?_
  refine w_reg (l := r6_14.toList) rfl r6_14_ok ?_
  refine a_op rfl (o_mv rfl) ?_
  refine a_op rfl (o_rem rfl rfl (by omega) (by omega)) ?_
  refine a_op rfl (o_cv tk24 tk3 rfl (by simp only [klo, khi]; omega)) ?_
  refine a_op rfl (o_add rfl rfl (by simp only [klo, khi]; omega)) ?_
  refine a_op rfl (o_mv rfl) ?_
  refine a_op rfl (o_mv rfl) ?_
  refine a_pure rfl rfl rfl cb21 (day_ok _ _ _) ?_
  refine a_op rfl (o_mv rfl) ?_
  refine a_op rfl (o_ex rfl rfl) ?_
  refine a_op rfl (o_ex rfl rfl) ?_
  refine a_op rfl (o_as rfl) ?_
  refine a_op rfl (o_as rfl) ?_
  refine a_nil ?_
  refine tq_n ?_
  refine awp_seq ?_
  refine awp_seq ?_
  refine w_reg (l := r6_15.toList) rfl r6_15_ok ?_
  refine a_op rfl (o_mv rfl) ?_
  refine a_op rfl (o_mv rfl) ?_
  refine a_op rfl (o_add rfl rfl (by simp only [klo, khi]; omega)) ?_
  refine a_if rfl (o_ne rfl rfl) (fun h7 => ?_) (fun h8 => ?_)
  · omega
  refine a_nil ?_
  refine tq_n ?_
  refine w_false rfl ?_
  refine awp_skip ?_
  refine tq_n ?_
  refine awp_seq ?_
  refine awp_seq ?_
  refine w_reg (l := r6_17.toList) rfl r6_17_ok ?_
  refine a_op rfl ((by first | exact o_fa tf30_3 rfl rfl | exact o_fap tf30_3 rfl rfl)) ?_
  refine a_op rfl ((by first | exact o_ld tg28 rfl rfl | exact o_ldp tg28 rfl rfl rfl rfl)) ?_
  refine a_op rfl (o_len rfl rfl (by first | exact List.length_map .. | rfl) tl28) ?_
  refine a_op rfl (o_mv rfl) ?_
  refine a_nil ?_
  refine tq_n ?_
  refine awp_block ?_
  refine w_loop (fun i : Nat => i ≤ (sixL 6).length) (fun iC => [(7, .ptr 0 0), (8, .slo 1 ((kF (rulesF l) 1 (rulesF l).length).length) 0 ((kF (rulesF l) 1 (rulesF l).length).length)), (9, .slo 2 ((kF (rulesF l) 3 (rulesF l).length).length) 0 ((kF (rulesF l) 3 (rulesF l).length).length)), (12, .raw (.int .i64 (day % 365))), (17, .raw (.int .i64 (laterF (day % 365) (2001 + year % 2000)))), (69, .sl 8 false ((sixL 6).map ptAV)), (70, .raw (.int .i64 (((sixL 6).length : Nat) : Int))), (71, .raw (.int .i64 ((iC : Nat) : Int)))]) (fun _ => [.var [nilS, nilS, nilS, .sl 8 false ((sixL 6).map ptAV)], .vec 5 ((kF (rulesF l) 1 (rulesF l).length).length) ((kF (rulesF l) 1 (rulesF l).length).map ruleAV), .vec 5 ((kF (rulesF l) 3 (rulesF l).length).length) ((kF (rulesF l) 3 (rulesF l).length).map ruleAV)]) (fun i => (sixL 6).length - i) (0) (by omega) ⟨(by first | exact sub_int rfl (by omega) | rfl | exact sub_eq rfl (by rw [kF_succ (by omega)]; simp [*])), (by first | exact sub_int rfl (by omega) | rfl | exact sub_eq rfl (by rw [kF_succ (by omega)]; simp [*])), (by first | exact sub_int rfl (by omega) | rfl | exact sub_eq rfl (by rw [kF_succ (by omega)]; simp [*])), (by first | exact sub_int rfl (by omega) | rfl | exact sub_eq rfl (by rw [kF_succ (by omega)]; simp [*])), (by first | exact sub_int rfl (by omega) | rfl | exact sub_eq rfl (by rw [kF_succ (by omega)]; simp [*])), (by first | exact sub_int rfl (by omega) | rfl | exact sub_eq rfl (by rw [kF_succ (by omega)]; simp [*])), (by first | exact sub_int rfl (by omega) | rfl | exact sub_eq rfl (by rw [kF_succ (by omega)]; simp [*])), (by first | exact sub_int rfl (by omega) | rfl | exact sub_eq rfl (by rw [kF_succ (by omega)]; simp [*])), trivial⟩ rfl ?_
  intro iC hCp
  unfold b6_1
  refine awp_seq ?_
  refine w_reg (l := r6_18.toList) rfl r6_18_ok ?_
  refine a_if rfl (o_lt rfl rfl) (fun h9 => ?_) (fun h10 => ?_)
  · refine a_nil ?_
    refine tq_n ?_
    refine awp_seq ?_
    refine w_true rfl ?_
    refine awp_skip ?_
    refine tq_n ?_
    refine awp_seq ?_
    refine awp_block ?_
    refine awp_seq ?_
    have hC : iC < (sixL 6).length := by omega
    have hla := hlaw iC hC
    refine w_reg (l := r6_19.toList) rfl r6_19_ok ?_
    refine a_op rfl (o_ix te28 tn39 rfl rfl rfl (ixm _ _ _ hC)) ?_
    refine a_op rfl ((by first | exact o_ldg tg39 tn39 rfl rfl | exact o_ldpg tg39 tn39 rfl rfl rfl rfl)) ?_
    refine a_op rfl (o_al (N := 3) tz39 rfl rfl rfl) ?_
    refine a_op0 rfl (o_st (N := 7) tn39 rfl rfl (by first | exact good_slo rfl | rfl | (simp [AV.goodPart, AV.good, AV.isCell, fresh, nilS, Value.oneCell']; done)) rfl rfl) ?_
    refine a_nil ?_
    refine tq_n ?_
    refine awp_seq ?_
    refine awp_seq ?_
    refine awp_draw ⟨[[], [], [], [2], [], [0, 1, 2, 3, 4], [], [], [], [8], [], [0, 1, 2, 3, 4, 5, 6, 7, 8, 9, 10], [0, 1, 2, 3, 4, 5, 6, 7, 8, 9, 10, 11]], [[7], [8], [20], [77], [12], [75, 76, 78, 79], [7], [8], [20], [83], [17], [81, 82, 84, 85], [80, 86]], [[0], [], [], [3], [], [1], [0], [], [], [3], [], [1], []], [none, none, none, none, none, none, none, none, none, none, none, none, none]⟩ mo r6_20_ok (by decide +kernel) (l := r6_20.toList) rfl ?_
    refine d_op rfl rfl rfl (fun _ => (by first | exact o_ldg tg30 tn30 rfl rfl | exact o_ldpg tg30 tn30 rfl rfl rfl rfl)) ?_
    refine d_op rfl rfl rfl (fun _ => o_mv rfl) ?_
    refine d_op rfl rfl rfl (fun _ => (by first | exact o_fa tf39_0 rfl rfl | exact o_fap tf39_0 rfl rfl)) ?_
    refine d_op rfl rfl rfl (fun _ => (by first | exact o_ld tg3 rfl rfl | exact o_ldp tg3 rfl rfl rfl rfl)) ?_
    refine d_op rfl rfl rfl (fun _ => o_mv rfl) ?_
    refine d_lend (vs' := [refAV nilS nilS nilS false ((sixL 6)), .sl 5 false ((kF (rulesF l) 1 (rulesF l).length).map ruleAV), .sl 1 false (([] : List Int).map intAV), .raw (.int .i64 ((sixL 6)[iC]'hC).id), .raw (.int .i64 (day % 365))]) rfl rfl rfl rfl rfl cb14 (lstat_ok _ _ _ cel_nilS cel_nilS cel_nilS _ _ (by omega) _ _ (by have := kF_bd (rulesF l) 1 (rulesF l).length; omega) (kF_ok hRx _ _) _ _ (by simp) _ _) (fun _ => ⟨rs_pur (by simp [refAV, nilS]) rfl, rs_slo id rfl (by simp) (pmr _) rfl, .nil (by decide), rs_pur (by simp) rfl, rs_pur (by simp) rfl, trivial⟩) (by simp) ?_
    refine d_op rfl rfl rfl (fun _ => (by first | exact o_ldg tg30 tn30 rfl rfl | exact o_ldpg tg30 tn30 rfl rfl rfl rfl)) ?_
    refine d_op rfl rfl rfl (fun _ => o_mv rfl) ?_
    refine d_op rfl rfl rfl (fun _ => (by first | exact o_fa tf39_0 rfl rfl | exact o_fap tf39_0 rfl rfl)) ?_
    refine d_op rfl rfl rfl (fun _ => (by first | exact o_ld tg3 rfl rfl | exact o_ldp tg3 rfl rfl rfl rfl)) ?_
    refine d_op rfl rfl rfl (fun _ => o_mv rfl) ?_
    refine d_lend (vs' := [refAV nilS nilS nilS false ((sixL 6)), .sl 5 false ((kF (rulesF l) 1 (rulesF l).length).map ruleAV), .sl 1 false (([] : List Int).map intAV), .raw (.int .i64 ((sixL 6)[iC]'hC).id), .raw (.int .i64 (laterF (day % 365) (2001 + year % 2000)))]) rfl rfl rfl rfl rfl cb14 (lstat_ok _ _ _ cel_nilS cel_nilS cel_nilS _ _ (by omega) _ _ (by have := kF_bd (rulesF l) 1 (rulesF l).length; omega) (kF_ok hRx _ _) _ _ (by simp) _ _) (fun _ => ⟨rs_pur (by simp [refAV, nilS]) rfl, rs_slo id rfl (by simp) (pmr _) rfl, .nil (by decide), rs_pur (by simp) rfl, rs_pur (by simp) rfl, trivial⟩) (by simp) ?_
    refine d_if rfl rfl rfl (fun _ => o_ne rfl rfl) (fun h11 => ?_) (fun h12 => ?_)
    · omega
    refine d_nil ?_
    refine tq_n ?_
    refine w_false rfl ?_
    refine awp_skip ?_
    refine tq_n ?_
    refine awp_seq ?_
    refine awp_draw ⟨[[], [0], [0, 1], [0, 1, 2], [0, 1, 2, 3], [0, 1, 2, 3], [0, 1, 2, 3], [0, 1, 2, 3, 6], [0, 1, 2, 3], [0, 1, 2, 3, 4, 5, 6, 7, 8], [0, 1, 2, 3], [0, 1, 2, 3], [0, 1, 2, 3], [0, 1, 2, 3, 12], [0, 1, 2, 3], [0, 1, 2, 3, 14], [0, 1, 2, 3, 4, 5, 6, 7, 8, 9, 10, 11, 12, 13, 14, 15], [0, 1, 2, 3, 4, 5, 6, 7, 8, 9, 10, 11, 12, 13, 14, 15, 16], [0, 1, 2, 3, 4, 5, 6, 7, 8, 9, 10, 11, 12, 13, 14, 15, 16, 17]], [[17], [88], [89], [90], [7, 91], [9, 91], [20, 91], [91, 94], [17, 91], [91, 92, 93, 95, 96], [7, 91], [9, 91], [20, 91], [91, 100], [17, 91], [91, 102], [91, 98, 99, 101, 103], [91, 97, 104], [91, 105]], [[], [], [], [], [0], [], [], [3], [], [2], [0], [], [], [3], [], [], [2], [], []], [none, none, none, none, none, none, none, none, none, none, none, none, none, none, none, none, none, none, none]⟩ mo r6_22_ok (by decide +kernel) (l := r6_22.toList) rfl ?_
    refine d_op rfl rfl rfl (fun _ => o_mv rfl) ?_
    refine d_op rfl rfl rfl (fun _ => o_add rfl rfl (by simp only [klo, khi]; omega)) ?_
    refine d_if rfl rfl rfl (fun _ => o_le rfl rfl) (fun h13 => ?_) (fun h14 => ?_)
    · refine d_op rfl rfl rfl (fun _ => o_mv rfl) ?_
      refine d_op rfl rfl rfl (fun _ => (by first | exact o_ldg tg30 tn30 rfl rfl | exact o_ldpg tg30 tn30 rfl rfl rfl rfl)) ?_
      refine d_op rfl rfl rfl (fun _ => o_mv rfl) ?_
      refine d_op rfl rfl rfl (fun _ => (by first | exact o_fa tf39_0 rfl rfl | exact o_fap tf39_0 rfl rfl)) ?_
      refine d_op rfl rfl rfl (fun _ => (by first | exact o_ld tg3 rfl rfl | exact o_ldp tg3 rfl rfl rfl rfl)) ?_
      refine d_op rfl rfl rfl (fun _ => o_mv rfl) ?_
      refine d_lend (vs' := [refAV nilS nilS nilS false ((sixL 6)), .sl 5 false ((kF (rulesF l) 3 (rulesF l).length).map ruleAV), .sl 1 false (([] : List Int).map intAV), .raw (.int .i64 ((sixL 6)[iC]'hC).id), .raw (.int .i64 (laterF (day % 365) (2001 + year % 2000)))]) rfl rfl rfl rfl rfl cb14 (lstat_ok _ _ _ cel_nilS cel_nilS cel_nilS _ _ (by omega) _ _ (by have := kF_bd (rulesF l) 3 (rulesF l).length; omega) (kF_ok hRx _ _) _ _ (by simp) _ _) (fun _ => ⟨rs_pur (by simp [refAV, nilS]) rfl, rs_slo id rfl (by simp) (pmr _) rfl, .nil (by decide), rs_pur (by simp) rfl, rs_pur (by simp) rfl, trivial⟩) (by simp) ?_
      refine d_op rfl rfl rfl (fun _ => (by first | exact o_ldg tg30 tn30 rfl rfl | exact o_ldpg tg30 tn30 rfl rfl rfl rfl)) ?_
      refine d_op rfl rfl rfl (fun _ => o_mv rfl) ?_
      refine d_op rfl rfl rfl (fun _ => (by first | exact o_fa tf39_0 rfl rfl | exact o_fap tf39_0 rfl rfl)) ?_
      refine d_op rfl rfl rfl (fun _ => (by first | exact o_ld tg3 rfl rfl | exact o_ldp tg3 rfl rfl rfl rfl)) ?_
      refine d_op rfl rfl rfl (fun _ => o_mv rfl) ?_
      refine d_op rfl rfl rfl (fun _ => o_add rfl rfl (by simp only [klo, khi]; omega)) ?_
      refine d_lend (vs' := [refAV nilS nilS nilS false ((sixL 6)), .sl 5 false ((kF (rulesF l) 3 (rulesF l).length).map ruleAV), .sl 1 false (([] : List Int).map intAV), .raw (.int .i64 ((sixL 6)[iC]'hC).id), .raw (.int .i64 ((laterF (day % 365) (2001 + year % 2000)) + 7))]) rfl rfl rfl rfl rfl cb14 (lstat_ok _ _ _ cel_nilS cel_nilS cel_nilS _ _ (by omega) _ _ (by have := kF_bd (rulesF l) 3 (rulesF l).length; omega) (kF_ok hRx _ _) _ _ (by simp) _ _) (fun _ => ⟨rs_pur (by simp [refAV, nilS]) rfl, rs_slo id rfl (by simp) (pmr _) rfl, .nil (by decide), rs_pur (by simp) rfl, rs_pur (by simp) rfl, trivial⟩) (by simp) ?_
      refine d_if rfl rfl rfl (fun _ => o_ne rfl rfl) (fun h15 => ?_) (fun h16 => ?_)
      · have hl2 := hla.2 (by omega); omega
      refine d_op rfl rfl rfl (fun _ => o_pkt rfl rfl) ?_
      refine d_nil ?_
      refine tq_n ?_
      refine w_false rfl ?_
      refine awp_skip ?_
      refine bq_n ?_
      refine tq_n ?_
      refine w_view [(7, .ptr 0 0), (8, .slo 1 ((kF (rulesF l) 1 (rulesF l).length).length) 0 ((kF (rulesF l) 1 (rulesF l).length).length)), (9, .slo 2 ((kF (rulesF l) 3 (rulesF l).length).length) 0 ((kF (rulesF l) 3 (rulesF l).length).length)), (12, .raw (.int .i64 (day % 365))), (17, .raw (.int .i64 (laterF (day % 365) (2001 + year % 2000)))), (69, .sl 8 false ((sixL 6).map ptAV)), (70, .raw (.int .i64 (((sixL 6).length : Nat) : Int))), (71, .raw (.int .i64 ((iC : Nat) : Int)))] ([.var [nilS, nilS, nilS, .sl 8 false ((sixL 6).map ptAV)], .vec 5 ((kF (rulesF l) 1 (rulesF l).length).length) ((kF (rulesF l) 1 (rulesF l).length).map ruleAV), .vec 5 ((kF (rulesF l) 3 (rulesF l).length).length) ((kF (rulesF l) 3 (rulesF l).length).map ruleAV)]) 3 rfl (Nat.le_of_ble_eq_true rfl) (Nat.le_of_ble_eq_true rfl) ⟨⟨_, rfl, (by first | exact .sloK (Nat.le_of_ble_eq_true rfl) | exact .ptrK (Nat.le_of_ble_eq_true rfl) | exact rs_pur (by simp) rfl)⟩, ⟨_, rfl, (by first | exact .sloK (Nat.le_of_ble_eq_true rfl) | exact .ptrK (Nat.le_of_ble_eq_true rfl) | exact rs_pur (by simp) rfl)⟩, ⟨_, rfl, (by first | exact .sloK (Nat.le_of_ble_eq_true rfl) | exact .ptrK (Nat.le_of_ble_eq_true rfl) | exact rs_pur (by simp) rfl)⟩, ⟨_, rfl, (by first | exact .sloK (Nat.le_of_ble_eq_true rfl) | exact .ptrK (Nat.le_of_ble_eq_true rfl) | exact rs_pur (by simp) rfl)⟩, ⟨_, rfl, (by first | exact .sloK (Nat.le_of_ble_eq_true rfl) | exact .ptrK (Nat.le_of_ble_eq_true rfl) | exact rs_pur (by simp) rfl)⟩, ⟨_, rfl, (by first | exact .sloK (Nat.le_of_ble_eq_true rfl) | exact .ptrK (Nat.le_of_ble_eq_true rfl) | exact rs_pur (by simp) rfl)⟩, ⟨_, rfl, (by first | exact .sloK (Nat.le_of_ble_eq_true rfl) | exact .ptrK (Nat.le_of_ble_eq_true rfl) | exact rs_pur (by simp) rfl)⟩, ⟨_, rfl, (by first | exact .sloK (Nat.le_of_ble_eq_true rfl) | exact .ptrK (Nat.le_of_ble_eq_true rfl) | exact rs_pur (by simp) rfl)⟩, trivial⟩ ⟨ors_var ⟨rs_pur (by simp [nilS]) rfl, rs_pur (by simp [nilS]) rfl, rs_pur (by simp [nilS]) rfl, rs_pur (by simp) rfl, trivial⟩, ors_vec (by first | exact pmr _ | exact pms (pmr _) (by simp)), ors_vec (by first | exact pmr _ | exact pms (pmr _) (by simp)), trivial⟩ ?_
      refine w_reg (l := r6_24.toList) rfl r6_24_ok ?_
      refine a_op rfl (o_add rfl rfl (by simp only [klo, khi]; omega)) ?_
      refine a_op rfl (o_mv rfl) ?_
      refine a_nil ?_
      refine tq_n ?_
      exact ⟨iC + 1, ⟨by omega, by omega⟩, ⟨(by first | exact sub_int rfl (by omega) | rfl | exact sub_eq rfl (by rw [kF_succ (by omega)]; simp [*])), (by first | exact sub_int rfl (by omega) | rfl | exact sub_eq rfl (by rw [kF_succ (by omega)]; simp [*])), (by first | exact sub_int rfl (by omega) | rfl | exact sub_eq rfl (by rw [kF_succ (by omega)]; simp [*])), (by first | exact sub_int rfl (by omega) | rfl | exact sub_eq rfl (by rw [kF_succ (by omega)]; simp [*])), (by first | exact sub_int rfl (by omega) | rfl | exact sub_eq rfl (by rw [kF_succ (by omega)]; simp [*])), (by first | exact sub_int rfl (by omega) | rfl | exact sub_eq rfl (by rw [kF_succ (by omega)]; simp [*])), (by first | exact sub_int rfl (by omega) | rfl | exact sub_eq rfl (by rw [kF_succ (by omega)]; simp [*])), (by first | exact sub_int rfl (by omega) | rfl | exact sub_eq rfl (by rw [kF_succ (by omega)]; simp [*])), trivial⟩, rfl⟩
    refine d_op rfl rfl rfl (fun _ => o_mv rfl) ?_
    refine d_off rfl rfl ?_
    refine d_off rfl rfl ?_
    refine d_off rfl rfl ?_
    refine d_off rfl rfl ?_
    refine d_off rfl rfl ?_
    refine d_off rfl rfl ?_
    refine d_off rfl rfl ?_
    refine d_off rfl rfl ?_
    refine d_off rfl rfl ?_
    refine d_off rfl rfl ?_
    refine d_off rfl rfl ?_
    refine d_off rfl rfl ?_
    refine d_off rfl rfl ?_
    refine d_off rfl rfl ?_
    refine d_op rfl rfl rfl (fun _ => o_pkf rfl rfl) ?_
    refine d_nil ?_
    refine tq_n ?_
    refine w_false rfl ?_
    refine awp_skip ?_
    refine bq_n ?_
    refine tq_n ?_
    refine w_view [(7, .ptr 0 0), (8, .slo 1 ((kF (rulesF l) 1 (rulesF l).length).length) 0 ((kF (rulesF l) 1 (rulesF l).length).length)), (9, .slo 2 ((kF (rulesF l) 3 (rulesF l).length).length) 0 ((kF (rulesF l) 3 (rulesF l).length).length)), (12, .raw (.int .i64 (day % 365))), (17, .raw (.int .i64 (laterF (day % 365) (2001 + year % 2000)))), (69, .sl 8 false ((sixL 6).map ptAV)), (70, .raw (.int .i64 (((sixL 6).length : Nat) : Int))), (71, .raw (.int .i64 ((iC : Nat) : Int)))] ([.var [nilS, nilS, nilS, .sl 8 false ((sixL 6).map ptAV)], .vec 5 ((kF (rulesF l) 1 (rulesF l).length).length) ((kF (rulesF l) 1 (rulesF l).length).map ruleAV), .vec 5 ((kF (rulesF l) 3 (rulesF l).length).length) ((kF (rulesF l) 3 (rulesF l).length).map ruleAV)]) 3 rfl (Nat.le_of_ble_eq_true rfl) (Nat.le_of_ble_eq_true rfl) ⟨⟨_, rfl, (by first | exact .sloK (Nat.le_of_ble_eq_true rfl) | exact .ptrK (Nat.le_of_ble_eq_true rfl) | exact rs_pur (by simp) rfl)⟩, ⟨_, rfl, (by first | exact .sloK (Nat.le_of_ble_eq_true rfl) | exact .ptrK (Nat.le_of_ble_eq_true rfl) | exact rs_pur (by simp) rfl)⟩, ⟨_, rfl, (by first | exact .sloK (Nat.le_of_ble_eq_true rfl) | exact .ptrK (Nat.le_of_ble_eq_true rfl) | exact rs_pur (by simp) rfl)⟩, ⟨_, rfl, (by first | exact .sloK (Nat.le_of_ble_eq_true rfl) | exact .ptrK (Nat.le_of_ble_eq_true rfl) | exact rs_pur (by simp) rfl)⟩, ⟨_, rfl, (by first | exact .sloK (Nat.le_of_ble_eq_true rfl) | exact .ptrK (Nat.le_of_ble_eq_true rfl) | exact rs_pur (by simp) rfl)⟩, ⟨_, rfl, (by first | exact .sloK (Nat.le_of_ble_eq_true rfl) | exact .ptrK (Nat.le_of_ble_eq_true rfl) | exact rs_pur (by simp) rfl)⟩, ⟨_, rfl, (by first | exact .sloK (Nat.le_of_ble_eq_true rfl) | exact .ptrK (Nat.le_of_ble_eq_true rfl) | exact rs_pur (by simp) rfl)⟩, ⟨_, rfl, (by first | exact .sloK (Nat.le_of_ble_eq_true rfl) | exact .ptrK (Nat.le_of_ble_eq_true rfl) | exact rs_pur (by simp) rfl)⟩, trivial⟩ ⟨ors_var ⟨rs_pur (by simp [nilS]) rfl, rs_pur (by simp [nilS]) rfl, rs_pur (by simp [nilS]) rfl, rs_pur (by simp) rfl, trivial⟩, ors_vec (by first | exact pmr _ | exact pms (pmr _) (by simp)), ors_vec (by first | exact pmr _ | exact pms (pmr _) (by simp)), trivial⟩ ?_
    refine w_reg (l := r6_24.toList) rfl r6_24_ok ?_
    refine a_op rfl (o_add rfl rfl (by simp only [klo, khi]; omega)) ?_
    refine a_op rfl (o_mv rfl) ?_
    refine a_nil ?_
    refine tq_n ?_
    exact ⟨iC + 1, ⟨by omega, by omega⟩, ⟨(by first | exact sub_int rfl (by omega) | rfl | exact sub_eq rfl (by rw [kF_succ (by omega)]; simp [*])), (by first | exact sub_int rfl (by omega) | rfl | exact sub_eq rfl (by rw [kF_succ (by omega)]; simp [*])), (by first | exact sub_int rfl (by omega) | rfl | exact sub_eq rfl (by rw [kF_succ (by omega)]; simp [*])), (by first | exact sub_int rfl (by omega) | rfl | exact sub_eq rfl (by rw [kF_succ (by omega)]; simp [*])), (by first | exact sub_int rfl (by omega) | rfl | exact sub_eq rfl (by rw [kF_succ (by omega)]; simp [*])), (by first | exact sub_int rfl (by omega) | rfl | exact sub_eq rfl (by rw [kF_succ (by omega)]; simp [*])), (by first | exact sub_int rfl (by omega) | rfl | exact sub_eq rfl (by rw [kF_succ (by omega)]; simp [*])), (by first | exact sub_int rfl (by omega) | rfl | exact sub_eq rfl (by rw [kF_succ (by omega)]; simp [*])), trivial⟩, rfl⟩
  refine a_nil ?_
  refine tq_n ?_
  refine awp_seq ?_
  refine w_false rfl ?_
  refine awp_exit ?_
  refine tq_x ?_
  refine tq_x ?_
  refine bq_hit ?_
  refine tq_n ?_
  refine awp_seq ?_
  refine w_reg (l := r6_25.toList) rfl r6_25_ok ?_
  refine a_pure rfl rfl rfl cb15 (awake_ok) ?_
  refine a_op rfl (o_as rfl) ?_
  refine a_nil ?_
  refine tq_n ?_
  refine awp_ret ?_
  refine r_one rfl ⟨rfl, trivial⟩ ?_
  exact rs_pur (by simp) rfl
end Go.Ab.D
