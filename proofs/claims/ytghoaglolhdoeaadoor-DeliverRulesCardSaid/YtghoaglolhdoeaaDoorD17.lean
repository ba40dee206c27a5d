/- What functions of this program compute, and the laws of what they compute, under the bounds on lengths that each contract states. -/
import Derived.Test.YtghoaglolhdoeaaDoorD16
set_option linter.unusedSimpArgs false
set_option linter.unusedVariables false
namespace Go.Ab.D
open Go Go.Ab Go.Proofs

noncomputable def r9_0 : Array Oper := opsAt Tryd.f9 [0]
theorem r9_0_ok : dstOk 192 r9_0.toList = true ∧ r9_0.toList.all (fun o => noDefer o.op) = true := by decide +kernel
noncomputable def r9_1 : Array Oper := opsAt Tryd.f9 [1, 0]
theorem r9_1_ok : dstOk 192 r9_1.toList = true ∧ r9_1.toList.all (fun o => noDefer o.op) = true := by decide +kernel
noncomputable def r9_2 : Array Oper := opsAt Tryd.f9 [1, 1, 0, 0]
theorem r9_2_ok : dstOk 192 r9_2.toList = true ∧ r9_2.toList.all (fun o => noDefer o.op) = true := by decide +kernel
noncomputable def r9_3 : Array Oper := opsAt Tryd.f9 [1, 1, 0, 1, 0]
theorem r9_3_ok : dstOk 192 r9_3.toList = true ∧ r9_3.toList.all (fun o => noDefer o.op) = true := by decide +kernel
noncomputable def r9_4 : Array Oper := opsAt Tryd.f9 [1, 1, 0, 1, 1, 0, 0]
theorem r9_4_ok : dstOk 192 r9_4.toList = true ∧ r9_4.toList.all (fun o => noDefer o.op) = true := by decide +kernel
noncomputable def r9_5 : Array Oper := opsAt Tryd.f9 [1, 1, 1, 0]
theorem r9_5_ok : dstOk 192 r9_5.toList = true ∧ r9_5.toList.all (fun o => noDefer o.op) = true := by decide +kernel
noncomputable def r9_6 : Array Oper := opsAt Tryd.f9 [1, 1, 1, 1, 0, 0]
theorem r9_6_ok : dstOk 192 r9_6.toList = true ∧ r9_6.toList.all (fun o => noDefer o.op) = true := by decide +kernel
noncomputable def r9_7 : Array Oper := opsAt Tryd.f9 [1, 1, 1, 1, 0, 1, 0, 0]
theorem r9_7_ok : dstOk 192 r9_7.toList = true ∧ r9_7.toList.all (fun o => noDefer o.op) = true := by decide +kernel
noncomputable def r9_8 : Array Oper := opsAt Tryd.f9 [1, 1, 1, 1, 1, 0]
theorem r9_8_ok : dstOk 192 r9_8.toList = true ∧ r9_8.toList.all (fun o => noDefer o.op) = true := by decide +kernel
noncomputable def r9_9 : Array Oper := opsAt Tryd.f9 [1, 1, 1, 1, 1, 1, 0, 0]
theorem r9_9_ok : dstOk 192 r9_9.toList = true ∧ r9_9.toList.all (fun o => noDefer o.op) = true := by decide +kernel
noncomputable def r9_10 : Array Oper := opsAt Tryd.f9 [1, 1, 1, 1, 1, 1, 0, 1, 0, 0, 0, 0]
theorem r9_10_ok : dstOk 192 r9_10.toList = true ∧ r9_10.toList.all (fun o => noDefer o.op) = true := by decide +kernel
noncomputable def r9_12 : Array Oper := opsAt Tryd.f9 [1, 1, 1, 1, 1, 1, 0, 1, 0, 0, 1, 0, 0, 0]
theorem r9_12_ok : dstOk 192 r9_12.toList = true ∧ r9_12.toList.all (fun o => noDefer o.op) = true := by decide +kernel
noncomputable def r9_13 : Array Oper := opsAt Tryd.f9 [1, 1, 1, 1, 1, 1, 0, 1, 0, 0, 1, 0, 0, 1, 0, 0]
theorem r9_13_ok : dstOk 192 r9_13.toList = true ∧ r9_13.toList.all (fun o => noDefer o.op) = true := by decide +kernel
noncomputable def r9_14 : Array Oper := opsAt Tryd.f9 [1, 1, 1, 1, 1, 1, 0, 1, 0, 0, 1, 0, 0, 1, 0, 1, 0, 0, 0]
theorem r9_14_ok : dstOk 192 r9_14.toList = true ∧ r9_14.toList.all (fun o => noDefer o.op) = true := by decide +kernel
noncomputable def r9_15 : Array Oper := opsAt Tryd.f9 [1, 1, 1, 1, 1, 1, 0, 1, 0, 0, 1, 0, 0, 1, 0, 1, 0, 0, 1, 1, 0, 0, 0]
theorem r9_15_ok : dstOk 192 r9_15.toList = true ∧ r9_15.toList.all (fun o => noDefer o.op) = true := by decide +kernel
noncomputable def r9_16 : Array Oper := opsAt Tryd.f9 [1, 1, 1, 1, 1, 1, 0, 1, 0, 0, 1, 0, 0, 1, 0, 1, 0, 0, 1, 1, 0, 0, 1, 0, 0]
theorem r9_16_ok : dstOk 192 r9_16.toList = true ∧ r9_16.toList.all (fun o => noDefer o.op) = true := by decide +kernel
noncomputable def r9_17 : Array Oper := opsAt Tryd.f9 [1, 1, 1, 1, 1, 1, 0, 1, 0, 0, 1, 0, 0, 1, 0, 1, 0, 0, 1, 1, 0, 0, 1, 1, 0]
theorem r9_17_ok : dstOk 192 r9_17.toList = true ∧ r9_17.toList.all (fun o => noDefer o.op) = true := by decide +kernel
noncomputable def r9_18 : Array Oper := opsAt Tryd.f9 [1, 1, 1, 1, 1, 1, 0, 1, 0, 0, 1, 0, 0, 1, 0, 1, 0, 0, 1, 1, 0, 0, 1, 1, 1, 0, 0]
theorem r9_18_ok : dstOk 192 r9_18.toList = true ∧ r9_18.toList.all (fun o => noDefer o.op) = true := by decide +kernel
noncomputable def r9_19 : Array Oper := opsAt Tryd.f9 [1, 1, 1, 1, 1, 1, 0, 1, 0, 0, 1, 0, 0, 1, 0, 1, 0, 0, 1, 1, 0, 0, 1, 1, 1, 0, 1, 0]
theorem r9_19_ok : dstOk 192 r9_19.toList = true ∧ r9_19.toList.all (fun o => noDefer o.op) = true := by decide +kernel
noncomputable def r9_20 : Array Oper := opsAt Tryd.f9 [1, 1, 1, 1, 1, 1, 0, 1, 0, 0, 1, 0, 0, 1, 0, 1, 0, 0, 1, 1, 0, 0, 1, 1, 1, 0, 1, 1, 0]
theorem r9_20_ok : dstOk 192 r9_20.toList = true ∧ r9_20.toList.all (fun o => noDefer o.op) = true := by decide +kernel
noncomputable def r9_21 : Array Oper := opsAt Tryd.f9 [1, 1, 1, 1, 1, 1, 0, 1, 0, 0, 1, 0, 0, 1, 0, 1, 0, 0, 1, 1, 0, 0, 1, 1, 1, 0, 1, 1, 1, 0, 0]
theorem r9_21_ok : dstOk 192 r9_21.toList = true ∧ r9_21.toList.all (fun o => noDefer o.op) = true := by decide +kernel
noncomputable def r9_22 : Array Oper := opsAt Tryd.f9 [1, 1, 1, 1, 1, 1, 0, 1, 0, 0, 1, 0, 0, 1, 0, 1, 0, 0, 1, 1, 0, 0, 1, 1, 1, 0, 1, 1, 1, 0, 1]
theorem r9_22_ok : dstOk 192 r9_22.toList = true ∧ r9_22.toList.all (fun o => noDefer o.op) = true := by decide +kernel
noncomputable def r9_23 : Array Oper := opsAt Tryd.f9 [1, 1, 1, 1, 1, 1, 0, 1, 0, 0, 1, 0, 0, 1, 0, 1, 0, 0, 1, 1, 0, 0, 1, 1, 1, 0, 1, 1, 1, 1, 0]
theorem r9_23_ok : dstOk 192 r9_23.toList = true ∧ r9_23.toList.all (fun o => noDefer o.op) = true := by decide +kernel
noncomputable def r9_24 : Array Oper := opsAt Tryd.f9 [1, 1, 1, 1, 1, 1, 0, 1, 0, 0, 1, 0, 0, 1, 0, 1, 0, 0, 1, 1, 0, 0, 1, 1, 1, 0, 1, 1, 1, 1, 1, 0, 0]
theorem r9_24_ok : dstOk 192 r9_24.toList = true ∧ r9_24.toList.all (fun o => noDefer o.op) = true := by decide +kernel
noncomputable def r9_25 : Array Oper := opsAt Tryd.f9 [1, 1, 1, 1, 1, 1, 0, 1, 0, 0, 1, 0, 0, 1, 0, 1, 0, 0, 1, 1, 0, 0, 1, 1, 1, 0, 1, 1, 1, 1, 1, 0, 1]
theorem r9_25_ok : dstOk 192 r9_25.toList = true ∧ r9_25.toList.all (fun o => noDefer o.op) = true := by decide +kernel
noncomputable def r9_26 : Array Oper := opsAt Tryd.f9 [1, 1, 1, 1, 1, 1, 0, 1, 0, 0, 1, 0, 0, 1, 0, 1, 0, 0, 1, 1, 1]
theorem r9_26_ok : dstOk 192 r9_26.toList = true ∧ r9_26.toList.all (fun o => noDefer o.op) = true := by decide +kernel
noncomputable def b9_0 : Code := (.seq (.region 14 r9_14 false) (.seq (.cond (.tmp 70) .skip (.exit 2)) (.seq (.block 3 (.seq (.region 15 r9_15 false) (.seq (.seq (.region 16 r9_16 false) (.cond (.tmp 76) (.exit 3) .skip)) (.seq (.region 17 r9_17 false) (.block 4 (.seq (.region 18 r9_18 false) (.cond (.tmp 79) (.region 19 r9_19 false) (.seq (.region 20 r9_20 false) (.cond (.tmp 94) (.seq (.region 21 r9_21 false) (.region 22 r9_22 false)) (.seq (.region 23 r9_23 false) (.cond (.tmp 128) (.seq (.region 24 r9_24 false) (.region 25 r9_25 false)) .skip))))))))))) (.region 26 r9_26 false))))
noncomputable def r9_27 : Array Oper := opsAt Tryd.f9 [1, 1, 1, 1, 1, 1, 0, 1, 0, 0, 1, 0, 0, 1, 1, 0, 0]
theorem r9_27_ok : dstOk 192 r9_27.toList = true ∧ r9_27.toList.all (fun o => noDefer o.op) = true := by decide +kernel
noncomputable def r9_28 : Array Oper := opsAt Tryd.f9 [1, 1, 1, 1, 1, 1, 0, 1, 0, 0, 1, 0, 0, 1, 1, 0, 1, 0, 0, 0]
theorem r9_28_ok : dstOk 192 r9_28.toList = true ∧ r9_28.toList.all (fun o => noDefer o.op) = true := by decide +kernel
noncomputable def r9_29 : Array Oper := opsAt Tryd.f9 [1, 1, 1, 1, 1, 1, 0, 1, 0, 0, 1, 0, 0, 1, 1, 0, 1, 0, 0, 1, 1, 0, 0, 0]
theorem r9_29_ok : dstOk 192 r9_29.toList = true ∧ r9_29.toList.all (fun o => noDefer o.op) = true := by decide +kernel
noncomputable def r9_30 : Array Oper := opsAt Tryd.f9 [1, 1, 1, 1, 1, 1, 0, 1, 0, 0, 1, 0, 0, 1, 1, 0, 1, 0, 0, 1, 1, 0, 0, 1]
theorem r9_30_ok : dstOk 192 r9_30.toList = true ∧ r9_30.toList.all (fun o => noDefer o.op) = true := by decide +kernel
noncomputable def r9_31 : Array Oper := opsAt Tryd.f9 [1, 1, 1, 1, 1, 1, 0, 1, 0, 0, 1, 0, 0, 1, 1, 0, 1, 0, 0, 1, 1, 1]
theorem r9_31_ok : dstOk 192 r9_31.toList = true ∧ r9_31.toList.all (fun o => noDefer o.op) = true := by decide +kernel
noncomputable def b9_1 : Code := (.seq (.region 28 r9_28 false) (.seq (.cond (.tmp 144) .skip (.exit 5)) (.seq (.block 6 (.seq (.region 29 r9_29 false) (.region 30 r9_30 false))) (.region 31 r9_31 false))))
noncomputable def r9_32 : Array Oper := opsAt Tryd.f9 [1, 1, 1, 1, 1, 1, 0, 1, 0, 0, 1, 0, 0, 1, 1, 1, 0]
theorem r9_32_ok : dstOk 192 r9_32.toList = true ∧ r9_32.toList.all (fun o => noDefer o.op) = true := by decide +kernel
noncomputable def r9_33 : Array Oper := opsAt Tryd.f9 [1, 1, 1, 1, 1, 1, 0, 1, 0, 0, 1, 0, 0, 1, 1, 1, 1, 0, 0, 0]
theorem r9_33_ok : dstOk 192 r9_33.toList = true ∧ r9_33.toList.all (fun o => noDefer o.op) = true := by decide +kernel
noncomputable def r9_34 : Array Oper := opsAt Tryd.f9 [1, 1, 1, 1, 1, 1, 0, 1, 0, 0, 1, 0, 0, 1, 1, 1, 1, 0, 0, 1, 0]
theorem r9_34_ok : dstOk 192 r9_34.toList = true ∧ r9_34.toList.all (fun o => noDefer o.op) = true := by decide +kernel
noncomputable def r9_35 : Array Oper := opsAt Tryd.f9 [1, 1, 1, 1, 1, 1, 0, 1, 0, 0, 1, 0, 0, 1, 1, 1, 1, 0, 0, 1, 1, 0]
theorem r9_35_ok : dstOk 192 r9_35.toList = true ∧ r9_35.toList.all (fun o => noDefer o.op) = true := by decide +kernel
noncomputable def r9_36 : Array Oper := opsAt Tryd.f9 [1, 1, 1, 1, 1, 1, 0, 1, 0, 0, 1, 0, 0, 1, 1, 1, 1, 0, 0, 1, 1, 1, 0]
theorem r9_36_ok : dstOk 192 r9_36.toList = true ∧ r9_36.toList.all (fun o => noDefer o.op) = true := by decide +kernel
noncomputable def r9_37 : Array Oper := opsAt Tryd.f9 [1, 1, 1, 1, 1, 1, 0, 1, 0, 0, 1, 0, 0, 1, 1, 1, 1, 0, 0, 1, 1, 1, 1, 0]
theorem r9_37_ok : dstOk 192 r9_37.toList = true ∧ r9_37.toList.all (fun o => noDefer o.op) = true := by decide +kernel
noncomputable def r9_38 : Array Oper := opsAt Tryd.f9 [1, 1, 1, 1, 1, 1, 0, 1, 0, 0, 1, 0, 0, 1, 1, 1, 1, 0, 0, 1, 1, 1, 1, 1, 0]
theorem r9_38_ok : dstOk 192 r9_38.toList = true ∧ r9_38.toList.all (fun o => noDefer o.op) = true := by decide +kernel
noncomputable def r9_39 : Array Oper := opsAt Tryd.f9 [1, 1, 1, 1, 1, 1, 0, 1, 0, 0, 1, 0, 0, 1, 1, 1, 1, 1, 0]
theorem r9_39_ok : dstOk 192 r9_39.toList = true ∧ r9_39.toList.all (fun o => noDefer o.op) = true := by decide +kernel
noncomputable def r9_40 : Array Oper := opsAt Tryd.f9 [1, 1, 1, 1, 1, 1, 0, 1, 0, 0, 1, 0, 0, 1, 1, 1, 1, 1, 1, 0, 0]
theorem r9_40_ok : dstOk 192 r9_40.toList = true ∧ r9_40.toList.all (fun o => noDefer o.op) = true := by decide +kernel
noncomputable def r9_11 : Array Oper := opsAt Tryd.f9 [1, 1, 1, 1, 1, 1, 0, 1, 0, 0, 1, 1]
theorem r9_11_ok : dstOk 192 r9_11.toList = true ∧ r9_11.toList.all (fun o => noDefer o.op) = true := by decide +kernel
noncomputable def b9_2 : Code := (.seq (.seq (.region 10 r9_10 false) (.cond (.tmp 64) .skip (.exit 0))) (.seq (.block 1 (.seq (.region 12 r9_12 false) (.seq (.seq (.region 13 r9_13 false) (.block 2 (.loop b9_0))) (.seq (.seq (.region 27 r9_27 false) (.block 5 (.loop b9_1))) (.seq (.region 32 r9_32 false) (.seq (.block 7 (.seq (.region 33 r9_33 false) (.cond (.tmp 154) (.region 34 r9_34 false) (.seq (.region 35 r9_35 false) (.cond (.tmp 161) (.region 36 r9_36 false) (.seq (.region 37 r9_37 false) (.cond (.tmp 163) (.region 38 r9_38 false) .skip))))))) (.seq (.region 39 r9_39 false) (.cond (.tmp 190) (.seq (.region 40 r9_40 false) .ret) .skip)))))))) (.region 11 r9_11 false)))
noncomputable def r9_41 : Array Oper := opsAt Tryd.f9 [1, 1, 1, 1, 1, 1, 1, 0]
theorem r9_41_ok : dstOk 192 r9_41.toList = true ∧ r9_41.toList.all (fun o => noDefer o.op) = true := by decide +kernel
noncomputable def c9 : Code := (.seq (.region 0 r9_0 false) (.seq (.region 1 r9_1 false) (.seq (.seq (.region 2 r9_2 false) (.seq (.region 3 r9_3 false) (.cond (.tmp 49) (.seq (.region 4 r9_4 false) .ret) .skip))) (.seq (.region 5 r9_5 false) (.seq (.seq (.region 6 r9_6 false) (.cond (.tmp 58) (.seq (.region 7 r9_7 false) .ret) .skip)) (.seq (.region 8 r9_8 false) (.seq (.seq (.region 9 r9_9 false) (.block 0 (.loop b9_2))) (.seq (.region 41 r9_41 false) .ret))))))))
theorem body9 : Tryd.f9.body = some c9 := by kernel_rfl
set_option maxHeartbeats 4000000 in
theorem rules9_ok (b0 : Bool) (l : List NoteR) (hl0 : l.length ≤ 9223372036854775807) (hx : ∀ x ∈ l, x.ok) (b1 : Bool) (fl : List Int) (hl1 : fl.length ≤ 9223372036854775807) (hfl : ∀ x ∈ fl, u8r x) (day : Int) (hd : 0 ≤ day ∧ day ≤ 65535) : PureCall Tryd.prog GL 9 [.sl 4 b0 (l.map noteAV), .sl 1 b1 (fl.map u8AV), .raw (.int .u16 day)] (.raw (.bool true)) := by
  refine pure_of_body Tryd.func9 body9 (Nat.le_of_ble_eq_true rfl) (by simp) (by simp) ?_
  refine w_keep [(0, .sl 4 b0 (l.map noteAV)), (1, .sl 1 b1 (fl.map u8AV)), (2, .raw (.int .u16 day))] ⟨rfl, rfl, rfl, trivial⟩ ?_
  unfold c9
  have hR := rulesF_len l; have hRx := rulesF_ok hx; have hHO := offF_len fl; have h6 := sixL_len 6
  have hva := rulesF_valid hx
  have hv1 : (validF (sixL 6) (rulesF l)).1 = 0 := by rw [hva]
  have hv2 : (validF (sixL 6) (rulesF l)).2 = 0 := by rw [hva]
  have hwi : wi (day % 2001) 730484 = 0 := (wi_iff _ _).2 (by omega)
  have hdb := date_bd (day % 2001)
  refine awp_seq ?_
  refine w_reg (l := r9_0.toList) rfl r9_0_ok ?_
  refine a_op rfl (o_as rfl) ?_
  refine a_nil ?_
  refine tq_n ?_
  refine awp_seq ?_
  refine w_reg (l := r9_1.toList) rfl r9_1_ok ?_
  refine a_pure rfl rfl rfl cb11 (six_ok) ?_
  refine a_op rfl (o_mv rfl) ?_
  refine a_pure rfl rfl rfl cb12 (rules_ok _ _ (by omega) hx) ?_
  refine a_op rfl (o_mv rfl) ?_
  refine a_pure rfl rfl rfl cb13 (off_ok _ _ (by omega) hfl) ?_
  refine a_op rfl (o_mv rfl) ?_
  refine a_op rfl (o_rem rfl rfl (by omega) (by omega)) ?_
  refine a_op rfl (o_cv tk24 tk3 rfl (by simp only [klo, khi]; omega)) ?_
  refine a_op rfl (o_al (N := 0) tz30 rfl rfl rfl) ?_
  refine a_op0 rfl (o_st (N := 3) tn30 rfl rfl (by first | exact good_slo rfl | rfl | (simp [AV.goodPart, AV.good, AV.isCell, fresh, nilS, Value.oneCell']; done)) rfl rfl) ?_
  refine a_op rfl (o_as rfl) ?_
  refine a_op rfl (o_as rfl) ?_
  refine a_op rfl (o_as rfl) ?_
  refine a_nil ?_
  refine tq_n ?_
  refine awp_seq ?_
  refine awp_seq ?_
  refine w_reg (l := r9_2.toList) rfl r9_2_ok ?_
  refine a_op rfl ((by first | exact o_ldg tg30 tn30 rfl rfl | exact o_ldpg tg30 tn30 rfl rfl rfl rfl)) ?_
  refine a_op rfl (o_mv rfl) ?_
  refine a_pure rfl rfl rfl cb26 (Valid_ok _ _ _ cel_nilS cel_nilS cel_nilS _ _ (by omega) _ _ (by omega) hRx) ?_
  refine a_op rfl (o_mv rfl) ?_
  refine a_op rfl (o_ex rfl rfl) ?_
  refine a_op rfl (o_ex rfl rfl) ?_
  refine a_op rfl (o_as rfl) ?_
  refine a_op rfl (o_as rfl) ?_
  refine a_nil ?_
  refine tq_n ?_
  refine awp_seq ?_
  refine w_reg (l := r9_3.toList) rfl r9_3_ok ?_
  refine a_op rfl (o_mv rfl) ?_
  refine a_if rfl (o_ne rfl rfl) (fun h1 => ?_) (fun h2 => ?_)
  · omega
  refine a_op rfl (o_mv rfl) ?_
  refine a_op rfl (o_mv rfl) ?_
  refine a_if rfl (o_ne rfl rfl) (fun h3 => ?_) (fun h4 => ?_)
  · omega
  refine a_op rfl (o_pkf rfl rfl) ?_
  refine a_nil ?_
  refine tq_n ?_
  refine w_false rfl ?_
  refine awp_skip ?_
  refine tq_n ?_
  refine awp_seq ?_
  refine w_reg (l := r9_5.toList) rfl r9_5_ok ?_
  refine a_op rfl (o_mv rfl) ?_
  refine a_pure rfl rfl rfl cb20 (date_ok _) ?_
  refine a_op rfl (o_mv rfl) ?_
  refine a_op rfl (o_ex rfl rfl) ?_
  refine a_op rfl (o_ex rfl rfl) ?_
  refine a_op rfl (o_ex rfl rfl) ?_
  refine a_op rfl (o_ex rfl rfl) ?_
  refine a_op rfl (o_as rfl) ?_
  refine a_op rfl (o_as rfl) ?_
  refine a_op rfl (o_as rfl) ?_
  refine a_op rfl (o_as rfl) ?_
  refine a_nil ?_
  refine tq_n ?_
  refine awp_seq ?_
  refine awp_seq ?_
  refine w_reg (l := r9_6.toList) rfl r9_6_ok ?_
  refine a_op rfl (o_mv rfl) ?_
  refine a_if rfl (o_ne rfl rfl) (fun h5 => ?_) (fun h6 => ?_)
  · omega
  refine a_nil ?_
  refine tq_n ?_
  refine w_false rfl ?_
  refine awp_skip ?_
  refine tq_n ?_
  refine awp_seq ?_
  refine w_reg (l := r9_8.toList) rfl r9_8_ok ?_
  refine a_op rfl (o_mv rfl) ?_
  refine a_op rfl (o_mul rfl rfl (by simp only [klo, khi]; omega)) ?_
  refine a_op rfl (o_mv rfl) ?_
  refine a_op rfl (o_add rfl rfl (by simp only [klo, khi]; omega)) ?_
  refine a_op rfl (o_as rfl) ?_
  refine a_nil ?_
  refine tq_n ?_
  refine awp_seq ?_
  refine awp_seq ?_
  refine w_reg (l := r9_9.toList) rfl r9_9_ok ?_
  refine a_op rfl (o_as rfl) ?_
  refine a_nil ?_
  refine tq_n ?_
  refine awp_block ?_
  refine w_loop (fun p : Int => 0 ≤ p ∧ p ≤ 8) (fun p => [(7, .ptr 0 0), (8, .sl 5 false ((rulesF l).map ruleAV)), (9, .sl 1 false ((offF fl).map intAV)), (10, .raw (.int .i64 (day % 2001))), (17, .raw (.int .i64 (now (day % 2001)))), (18, .raw (.int .i64 p))]) (fun _ => [.var [nilS, nilS, nilS, .sl 8 false ((sixL 6).map ptAV)]]) (fun p => (8 - p).toNat) (0) ⟨by omega, by omega⟩ ⟨(by first | exact sub_int rfl (by omega) | rfl | exact sub_eq rfl (by rw [fB_succ hA2]; simp [gV, gS, gN, gW, gK, *] <;> omega) | exact sub_eq rfl (by rw [fH_succ hB2]; simp [*])), (by first | exact sub_int rfl (by omega) | rfl | exact sub_eq rfl (by rw [fB_succ hA2]; simp [gV, gS, gN, gW, gK, *] <;> omega) | exact sub_eq rfl (by rw [fH_succ hB2]; simp [*])), (by first | exact sub_int rfl (by omega) | rfl | exact sub_eq rfl (by rw [fB_succ hA2]; simp [gV, gS, gN, gW, gK, *] <;> omega) | exact sub_eq rfl (by rw [fH_succ hB2]; simp [*])), (by first | exact sub_int rfl (by omega) | rfl | exact sub_eq rfl (by rw [fB_succ hA2]; simp [gV, gS, gN, gW, gK, *] <;> omega) | exact sub_eq rfl (by rw [fH_succ hB2]; simp [*])), (by first | exact sub_int rfl (by omega) | rfl | exact sub_eq rfl (by rw [fB_succ hA2]; simp [gV, gS, gN, gW, gK, *] <;> omega) | exact sub_eq rfl (by rw [fH_succ hB2]; simp [*])), (by first | exact sub_int rfl (by omega) | rfl | exact sub_eq rfl (by rw [fB_succ hA2]; simp [gV, gS, gN, gW, gK, *] <;> omega) | exact sub_eq rfl (by rw [fH_succ hB2]; simp [*])), trivial⟩ rfl ?_
  intro p ⟨hp0, hp8⟩
  unfold b9_2
  refine awp_seq ?_
  refine awp_seq ?_
  refine w_reg (l := r9_10.toList) rfl r9_10_ok ?_
  refine a_op rfl (o_mv rfl) ?_
  refine a_if rfl (o_lt rfl rfl) (fun h7 => ?_) (fun h8 => ?_)
  · refine a_nil ?_
    refine tq_n ?_
    refine w_true rfl ?_
    refine awp_skip ?_
    refine tq_n ?_
    refine awp_seq ?_
    refine awp_block ?_
    refine awp_seq ?_
    refine w_reg (l := r9_12.toList) rfl r9_12_ok ?_
    refine a_op rfl (o_as rfl) ?_
    refine a_op rfl (o_as rfl) ?_
    refine a_op rfl (o_as rfl) ?_
    refine a_op rfl (o_as rfl) ?_
    refine a_op rfl (o_as rfl) ?_
    refine a_op rfl (o_as rfl) ?_
    refine a_nil ?_
    refine tq_n ?_
    refine awp_seq ?_
    refine awp_seq ?_
    refine w_reg (l := r9_13.toList) rfl r9_13_ok ?_
    refine a_op rfl (o_mv rfl) ?_
    refine a_op rfl (o_len rfl rfl (by first | exact List.length_map .. | rfl) tl32) ?_
    refine a_op rfl (o_mv rfl) ?_
    refine a_nil ?_
    refine tq_n ?_
    refine awp_block ?_
    refine w_loop (fun k : Nat => k ≤ (rulesF l).length) (fun k => [(7, .ptr 0 0), (8, .sl 5 false ((rulesF l).map ruleAV)), (9, .sl 1 false ((offF fl).map intAV)), (10, .raw (.int .i64 (day % 2001))), (17, .raw (.int .i64 (now (day % 2001)))), (18, .raw (.int .i64 p)), (19, .raw (.bool (fB (gV p (day % 2001)) (rulesF l) (k)))), (20, .raw (.bool (fB (gS p) (rulesF l) (k)))), (21, .raw (.bool (fB (gN p (now (day % 2001))) (rulesF l) (k)))), (22, .raw (.bool (fB (gW p) (rulesF l) (k)))), (23, .raw (.bool (fB (gK p ((day % 2001) % 7)) (rulesF l) (k)))), (24, .raw (.bool false)), (67, .sl 5 false ((rulesF l).map ruleAV)), (68, .raw (.int .i64 (((rulesF l).length : Nat) : Int))), (69, .raw (.int .i64 ((k : Nat) : Int)))]) (fun _ => [.var [nilS, nilS, nilS, .sl 8 false ((sixL 6).map ptAV)]]) (fun k => (rulesF l).length - k) (0) (by omega) ⟨(by first | exact sub_int rfl (by omega) | rfl | exact sub_eq rfl (by rw [fB_succ hA2]; simp [gV, gS, gN, gW, gK, *] <;> omega) | exact sub_eq rfl (by rw [fH_succ hB2]; simp [*])), (by first | exact sub_int rfl (by omega) | rfl | exact sub_eq rfl (by rw [fB_succ hA2]; simp [gV, gS, gN, gW, gK, *] <;> omega) | exact sub_eq rfl (by rw [fH_succ hB2]; simp [*])), (by first | exact sub_int rfl (by omega) | rfl | exact sub_eq rfl (by rw [fB_succ hA2]; simp [gV, gS, gN, gW, gK, *] <;> omega) | exact sub_eq rfl (by rw [fH_succ hB2]; simp [*])), (by first | exact sub_int rfl (by omega) | rfl | exact sub_eq rfl (by rw [fB_succ hA2]; simp [gV, gS, gN, gW, gK, *] <;> omega) | exact sub_eq rfl (by rw [fH_succ hB2]; simp [*])), (by first | exact sub_int rfl (by omega) | rfl | exact sub_eq rfl (by rw [fB_succ hA2]; simp [gV, gS, gN, gW, gK, *] <;> omega) | exact sub_eq rfl (by rw [fH_succ hB2]; simp [*])), (by first | exact sub_int rfl (by omega) | rfl | exact sub_eq rfl (by rw [fB_succ hA2]; simp [gV, gS, gN, gW, gK, *] <;> omega) | exact sub_eq rfl (by rw [fH_succ hB2]; simp [*])), (by first | exact sub_int rfl (by omega) | rfl | exact sub_eq rfl (by rw [fB_succ hA2]; simp [gV, gS, gN, gW, gK, *] <;> omega) | exact sub_eq rfl (by rw [fH_succ hB2]; simp [*])), (by first | exact sub_int rfl (by omega) | rfl | exact sub_eq rfl (by rw [fB_succ hA2]; simp [gV, gS, gN, gW, gK, *] <;> omega) | exact sub_eq rfl (by rw [fH_succ hB2]; simp [*])), (by first | exact sub_int rfl (by omega) | rfl | exact sub_eq rfl (by rw [fB_succ hA2]; simp [gV, gS, gN, gW, gK, *] <;> omega) | exact sub_eq rfl (by rw [fH_succ hB2]; simp [*])), (by first | exact sub_int rfl (by omega) | rfl | exact sub_eq rfl (by rw [fB_succ hA2]; simp [gV, gS, gN, gW, gK, *] <;> omega) | exact sub_eq rfl (by rw [fH_succ hB2]; simp [*])), (by first | exact sub_int rfl (by omega) | rfl | exact sub_eq rfl (by rw [fB_succ hA2]; simp [gV, gS, gN, gW, gK, *] <;> omega) | exact sub_eq rfl (by rw [fH_succ hB2]; simp [*])), (by first | exact sub_int rfl (by omega) | rfl | exact sub_eq rfl (by rw [fB_succ hA2]; simp [gV, gS, gN, gW, gK, *] <;> omega) | exact sub_eq rfl (by rw [fH_succ hB2]; simp [*])), (by first | exact sub_int rfl (by omega) | rfl | exact sub_eq rfl (by rw [fB_succ hA2]; simp [gV, gS, gN, gW, gK, *] <;> omega) | exact sub_eq rfl (by rw [fH_succ hB2]; simp [*])), (by first | exact sub_int rfl (by omega) | rfl | exact sub_eq rfl (by rw [fB_succ hA2]; simp [gV, gS, gN, gW, gK, *] <;> omega) | exact sub_eq rfl (by rw [fH_succ hB2]; simp [*])), (by first | exact sub_int rfl (by omega) | rfl | exact sub_eq rfl (by rw [fB_succ hA2]; simp [gV, gS, gN, gW, gK, *] <;> omega) | exact sub_eq rfl (by rw [fH_succ hB2]; simp [*])), trivial⟩ rfl ?_
    intro kA hA
    unfold b9_0
    refine awp_seq ?_
    refine w_reg (l := r9_14.toList) rfl r9_14_ok ?_
    refine a_if rfl (o_lt rfl rfl) (fun h9 => ?_) (fun h10 => ?_)
    · refine a_nil ?_
      refine tq_n ?_
      refine awp_seq ?_
      refine w_true rfl ?_
      refine awp_skip ?_
      refine tq_n ?_
      have hA2 : kA < (rulesF l).length := by omega
      have hRk := hRx _ (List.getElem_mem hA2)
      have hsb := shr_bd ((rulesF l)[kA]'hA2).days hRk.2.2.1 hRk.2.2.2 (min ((day % 2001) % 7).toNat IntKind.u8.bits)
      refine w_join (fun _ : Unit => True) (fun _ => [(7, .ptr 0 0), (8, .sl 5 false ((rulesF l).map ruleAV)), (9, .sl 1 false ((offF fl).map intAV)), (10, .raw (.int .i64 (day % 2001))), (17, .raw (.int .i64 (now (day % 2001)))), (18, .raw (.int .i64 p)), (19, .raw (.bool (fB (gV p (day % 2001)) (rulesF l) (kA + 1)))), (20, .raw (.bool (fB (gS p) (rulesF l) (kA + 1)))), (21, .raw (.bool (fB (gN p (now (day % 2001))) (rulesF l) (kA + 1)))), (22, .raw (.bool (fB (gW p) (rulesF l) (kA + 1)))), (23, .raw (.bool (fB (gK p ((day % 2001) % 7)) (rulesF l) (kA + 1)))), (24, .raw (.bool false)), (67, .sl 5 false ((rulesF l).map ruleAV)), (68, .raw (.int .i64 (((rulesF l).length : Nat) : Int))), (69, .raw (.int .i64 ((kA : Nat) : Int)))]) (fun _ => [.var [nilS, nilS, nilS, .sl 8 false ((sixL 6).map ptAV)], .var (ruleAV ((rulesF l)[kA]'hA2)).cells]) ?_ ?_
      · refine awp_block ?_
        refine awp_seq ?_
        refine w_reg (l := r9_15.toList) rfl r9_15_ok ?_
        refine a_op rfl (o_ix te32 tn37 rfl rfl rfl (ixm _ _ _ hA2)) ?_
        refine a_op rfl ((by first | exact o_ldg tg37 tn37 rfl rfl | exact o_ldpg tg37 tn37 rfl rfl rfl rfl)) ?_
        refine a_op rfl (o_al (N := 1) tz37 rfl rfl rfl) ?_
        refine a_op0 rfl (o_st (N := 4) tn37 rfl rfl (by first | exact good_slo rfl | rfl | (simp [AV.goodPart, AV.good, AV.isCell, fresh, nilS, Value.oneCell']; done)) rfl rfl) ?_
        refine a_nil ?_
        refine tq_n ?_
        refine awp_seq ?_
        refine awp_seq ?_
        refine w_reg (l := r9_16.toList) rfl r9_16_ok ?_
        refine a_op rfl ((by first | exact o_fa tf37_0 rfl rfl | exact o_fap tf37_0 rfl rfl)) ?_
        refine a_op rfl ((by first | exact o_ld tg3 rfl rfl | exact o_ldp tg3 rfl rfl rfl rfl)) ?_
        refine a_op rfl (o_mv rfl) ?_
        refine a_if rfl (o_ne rfl rfl) (fun h11 => ?_) (fun h12 => ?_)
        · refine a_nil ?_
          refine tq_n ?_
          refine w_true rfl ?_
          refine awp_exit ?_
          refine tq_x ?_
          refine bq_hit ?_
          refine tq_n ?_
          exact ⟨(), trivial, ⟨(by first | exact sub_int rfl (by omega) | rfl | exact sub_eq rfl (by rw [fB_succ hA2]; simp [gV, gS, gN, gW, gK, *] <;> omega) | exact sub_eq rfl (by rw [fH_succ hB2]; simp [*])), (by first | exact sub_int rfl (by omega) | rfl | exact sub_eq rfl (by rw [fB_succ hA2]; simp [gV, gS, gN, gW, gK, *] <;> omega) | exact sub_eq rfl (by rw [fH_succ hB2]; simp [*])), (by first | exact sub_int rfl (by omega) | rfl | exact sub_eq rfl (by rw [fB_succ hA2]; simp [gV, gS, gN, gW, gK, *] <;> omega) | exact sub_eq rfl (by rw [fH_succ hB2]; simp [*])), (by first | exact sub_int rfl (by omega) | rfl | exact sub_eq rfl (by rw [fB_succ hA2]; simp [gV, gS, gN, gW, gK, *] <;> omega) | exact sub_eq rfl (by rw [fH_succ hB2]; simp [*])), (by first | exact sub_int rfl (by omega) | rfl | exact sub_eq rfl (by rw [fB_succ hA2]; simp [gV, gS, gN, gW, gK, *] <;> omega) | exact sub_eq rfl (by rw [fH_succ hB2]; simp [*])), (by first | exact sub_int rfl (by omega) | rfl | exact sub_eq rfl (by rw [fB_succ hA2]; simp [gV, gS, gN, gW, gK, *] <;> omega) | exact sub_eq rfl (by rw [fH_succ hB2]; simp [*])), (by first | exact sub_int rfl (by omega) | rfl | exact sub_eq rfl (by rw [fB_succ hA2]; simp [gV, gS, gN, gW, gK, *] <;> omega) | exact sub_eq rfl (by rw [fH_succ hB2]; simp [*])), (by first | exact sub_int rfl (by omega) | rfl | exact sub_eq rfl (by rw [fB_succ hA2]; simp [gV, gS, gN, gW, gK, *] <;> omega) | exact sub_eq rfl (by rw [fH_succ hB2]; simp [*])), (by first | exact sub_int rfl (by omega) | rfl | exact sub_eq rfl (by rw [fB_succ hA2]; simp [gV, gS, gN, gW, gK, *] <;> omega) | exact sub_eq rfl (by rw [fH_succ hB2]; simp [*])), (by first | exact sub_int rfl (by omega) | rfl | exact sub_eq rfl (by rw [fB_succ hA2]; simp [gV, gS, gN, gW, gK, *] <;> omega) | exact sub_eq rfl (by rw [fH_succ hB2]; simp [*])), (by first | exact sub_int rfl (by omega) | rfl | exact sub_eq rfl (by rw [fB_succ hA2]; simp [gV, gS, gN, gW, gK, *] <;> omega) | exact sub_eq rfl (by rw [fH_succ hB2]; simp [*])), (by first | exact sub_int rfl (by omega) | rfl | exact sub_eq rfl (by rw [fB_succ hA2]; simp [gV, gS, gN, gW, gK, *] <;> omega) | exact sub_eq rfl (by rw [fH_succ hB2]; simp [*])), (by first | exact sub_int rfl (by omega) | rfl | exact sub_eq rfl (by rw [fB_succ hA2]; simp [gV, gS, gN, gW, gK, *] <;> omega) | exact sub_eq rfl (by rw [fH_succ hB2]; simp [*])), (by first | exact sub_int rfl (by omega) | rfl | exact sub_eq rfl (by rw [fB_succ hA2]; simp [gV, gS, gN, gW, gK, *] <;> omega) | exact sub_eq rfl (by rw [fH_succ hB2]; simp [*])), (by first | exact sub_int rfl (by omega) | rfl | exact sub_eq rfl (by rw [fB_succ hA2]; simp [gV, gS, gN, gW, gK, *] <;> omega) | exact sub_eq rfl (by rw [fH_succ hB2]; simp [*])), trivial⟩, rfl⟩
        refine a_nil ?_
        refine tq_n ?_
        refine w_false rfl ?_
        refine awp_skip ?_
        refine tq_n ?_
        refine awp_seq ?_
        have hpt : ((rulesF l)[kA]'hA2).pt = p := by omega
        refine w_reg (l := r9_17.toList) rfl r9_17_ok ?_
        refine a_op rfl ((by first | exact o_fa tf37_1 rfl rfl | exact o_fap tf37_1 rfl rfl)) ?_
        refine a_op rfl ((by first | exact o_ld tg5 rfl rfl | exact o_ldp tg5 rfl rfl rfl rfl)) ?_
        refine a_nil ?_
        refine tq_n ?_
        refine awp_block ?_
        refine awp_seq ?_
        refine w_reg (l := r9_18.toList) rfl r9_18_ok ?_
        refine a_if rfl (o_eq rfl rfl) (fun h13 => ?_) (fun h14 => ?_)
        · refine a_op rfl (o_as rfl) ?_
          refine a_nil ?_
          refine tq_n ?_
          refine w_true rfl ?_
          refine w_reg (l := r9_19.toList) rfl r9_19_ok ?_
          refine a_ifb rfl (o_mv rfl) (fun h15 => ?_) (fun h16 => ?_)
          · refine a_op rfl (o_mv rfl) ?_
            refine a_off rfl ?_
            refine a_off rfl ?_
            refine a_off rfl ?_
            refine a_off rfl ?_
            refine a_off rfl ?_
            refine a_off rfl ?_
            refine a_off rfl ?_
            refine a_off rfl ?_
            refine a_off rfl ?_
            refine a_off rfl ?_
            refine a_op rfl (o_pkt rfl rfl) ?_
            refine a_op rfl (o_as rfl) ?_
            refine a_nil ?_
            refine bq_n ?_
            refine bq_n ?_
            refine tq_n ?_
            exact ⟨(), trivial, ⟨(by first | exact sub_int rfl (by omega) | rfl | exact sub_eq rfl (by rw [fB_succ hA2]; simp [gV, gS, gN, gW, gK, *] <;> omega) | exact sub_eq rfl (by rw [fH_succ hB2]; simp [*])), (by first | exact sub_int rfl (by omega) | rfl | exact sub_eq rfl (by rw [fB_succ hA2]; simp [gV, gS, gN, gW, gK, *] <;> omega) | exact sub_eq rfl (by rw [fH_succ hB2]; simp [*])), (by first | exact sub_int rfl (by omega) | rfl | exact sub_eq rfl (by rw [fB_succ hA2]; simp [gV, gS, gN, gW, gK, *] <;> omega) | exact sub_eq rfl (by rw [fH_succ hB2]; simp [*])), (by first | exact sub_int rfl (by omega) | rfl | exact sub_eq rfl (by rw [fB_succ hA2]; simp [gV, gS, gN, gW, gK, *] <;> omega) | exact sub_eq rfl (by rw [fH_succ hB2]; simp [*])), (by first | exact sub_int rfl (by omega) | rfl | exact sub_eq rfl (by rw [fB_succ hA2]; simp [gV, gS, gN, gW, gK, *] <;> omega) | exact sub_eq rfl (by rw [fH_succ hB2]; simp [*])), (by first | exact sub_int rfl (by omega) | rfl | exact sub_eq rfl (by rw [fB_succ hA2]; simp [gV, gS, gN, gW, gK, *] <;> omega) | exact sub_eq rfl (by rw [fH_succ hB2]; simp [*])), (by first | exact sub_int rfl (by omega) | rfl | exact sub_eq rfl (by rw [fB_succ hA2]; simp [gV, gS, gN, gW, gK, *] <;> omega) | exact sub_eq rfl (by rw [fH_succ hB2]; simp [*])), (by first | exact sub_int rfl (by omega) | rfl | exact sub_eq rfl (by rw [fB_succ hA2]; simp [gV, gS, gN, gW, gK, *] <;> omega) | exact sub_eq rfl (by rw [fH_succ hB2]; simp [*])), (by first | exact sub_int rfl (by omega) | rfl | exact sub_eq rfl (by rw [fB_succ hA2]; simp [gV, gS, gN, gW, gK, *] <;> omega) | exact sub_eq rfl (by rw [fH_succ hB2]; simp [*])), (by first | exact sub_int rfl (by omega) | rfl | exact sub_eq rfl (by rw [fB_succ hA2]; simp [gV, gS, gN, gW, gK, *] <;> omega) | exact sub_eq rfl (by rw [fH_succ hB2]; simp [*])), (by first | exact sub_int rfl (by omega) | rfl | exact sub_eq rfl (by rw [fB_succ hA2]; simp [gV, gS, gN, gW, gK, *] <;> omega) | exact sub_eq rfl (by rw [fH_succ hB2]; simp [*])), (by first | exact sub_int rfl (by omega) | rfl | exact sub_eq rfl (by rw [fB_succ hA2]; simp [gV, gS, gN, gW, gK, *] <;> omega) | exact sub_eq rfl (by rw [fH_succ hB2]; simp [*])), (by first | exact sub_int rfl (by omega) | rfl | exact sub_eq rfl (by rw [fB_succ hA2]; simp [gV, gS, gN, gW, gK, *] <;> omega) | exact sub_eq rfl (by rw [fH_succ hB2]; simp [*])), (by first | exact sub_int rfl (by omega) | rfl | exact sub_eq rfl (by rw [fB_succ hA2]; simp [gV, gS, gN, gW, gK, *] <;> omega) | exact sub_eq rfl (by rw [fH_succ hB2]; simp [*])), (by first | exact sub_int rfl (by omega) | rfl | exact sub_eq rfl (by rw [fB_succ hA2]; simp [gV, gS, gN, gW, gK, *] <;> omega) | exact sub_eq rfl (by rw [fH_succ hB2]; simp [*])), trivial⟩, rfl⟩
          refine a_op rfl (o_mv rfl) ?_
          refine a_op rfl ((by first | exact o_fa tf37_2 rfl rfl | exact o_fap tf37_2 rfl rfl)) ?_
          refine a_op rfl ((by first | exact o_ld tg3 rfl rfl | exact o_ldp tg3 rfl rfl rfl rfl)) ?_
          refine a_op rfl (o_mv rfl) ?_
          refine a_if rfl (o_le rfl rfl) (fun h17 => ?_) (fun h18 => ?_)
          · refine a_op rfl (o_mv rfl) ?_
            refine a_op rfl (o_mv rfl) ?_
            refine a_op rfl ((by first | exact o_fa tf37_3 rfl rfl | exact o_fap tf37_3 rfl rfl)) ?_
            refine a_op rfl ((by first | exact o_ld tg3 rfl rfl | exact o_ldp tg3 rfl rfl rfl rfl)) ?_
            refine a_op rfl (o_le rfl rfl) ?_
            refine a_op rfl (o_pkt rfl rfl) ?_
            refine a_op rfl (o_pkf rfl rfl) ?_
            refine a_ifb rfl (o_as rfl) (fun h19 => ?_) (fun h20 => ?_)
            · refine a_nil ?_
              refine bq_n ?_
              refine bq_n ?_
              refine tq_n ?_
              exact ⟨(), trivial, ⟨(by first | exact sub_int rfl (by omega) | rfl | exact sub_eq rfl (by rw [fB_succ hA2]; simp [gV, gS, gN, gW, gK, *] <;> omega) | exact sub_eq rfl (by rw [fH_succ hB2]; simp [*])), (by first | exact sub_int rfl (by omega) | rfl | exact sub_eq rfl (by rw [fB_succ hA2]; simp [gV, gS, gN, gW, gK, *] <;> omega) | exact sub_eq rfl (by rw [fH_succ hB2]; simp [*])), (by first | exact sub_int rfl (by omega) | rfl | exact sub_eq rfl (by rw [fB_succ hA2]; simp [gV, gS, gN, gW, gK, *] <;> omega) | exact sub_eq rfl (by rw [fH_succ hB2]; simp [*])), (by first | exact sub_int rfl (by omega) | rfl | exact sub_eq rfl (by rw [fB_succ hA2]; simp [gV, gS, gN, gW, gK, *] <;> omega) | exact sub_eq rfl (by rw [fH_succ hB2]; simp [*])), (by first | exact sub_int rfl (by omega) | rfl | exact sub_eq rfl (by rw [fB_succ hA2]; simp [gV, gS, gN, gW, gK, *] <;> omega) | exact sub_eq rfl (by rw [fH_succ hB2]; simp [*])), (by first | exact sub_int rfl (by omega) | rfl | exact sub_eq rfl (by rw [fB_succ hA2]; simp [gV, gS, gN, gW, gK, *] <;> omega) | exact sub_eq rfl (by rw [fH_succ hB2]; simp [*])), (by first | exact sub_int rfl (by omega) | rfl | exact sub_eq rfl (by rw [fB_succ hA2]; simp [gV, gS, gN, gW, gK, *] <;> omega) | exact sub_eq rfl (by rw [fH_succ hB2]; simp [*])), (by first | exact sub_int rfl (by omega) | rfl | exact sub_eq rfl (by rw [fB_succ hA2]; simp [gV, gS, gN, gW, gK, *] <;> omega) | exact sub_eq rfl (by rw [fH_succ hB2]; simp [*])), (by first | exact sub_int rfl (by omega) | rfl | exact sub_eq rfl (by rw [fB_succ hA2]; simp [gV, gS, gN, gW, gK, *] <;> omega) | exact sub_eq rfl (by rw [fH_succ hB2]; simp [*])), (by first | exact sub_int rfl (by omega) | rfl | exact sub_eq rfl (by rw [fB_succ hA2]; simp [gV, gS, gN, gW, gK, *] <;> omega) | exact sub_eq rfl (by rw [fH_succ hB2]; simp [*])), (by first | exact sub_int rfl (by omega) | rfl | exact sub_eq rfl (by rw [fB_succ hA2]; simp [gV, gS, gN, gW, gK, *] <;> omega) | exact sub_eq rfl (by rw [fH_succ hB2]; simp [*])), (by first | exact sub_int rfl (by omega) | rfl | exact sub_eq rfl (by rw [fB_succ hA2]; simp [gV, gS, gN, gW, gK, *] <;> omega) | exact sub_eq rfl (by rw [fH_succ hB2]; simp [*])), (by first | exact sub_int rfl (by omega) | rfl | exact sub_eq rfl (by rw [fB_succ hA2]; simp [gV, gS, gN, gW, gK, *] <;> omega) | exact sub_eq rfl (by rw [fH_succ hB2]; simp [*])), (by first | exact sub_int rfl (by omega) | rfl | exact sub_eq rfl (by rw [fB_succ hA2]; simp [gV, gS, gN, gW, gK, *] <;> omega) | exact sub_eq rfl (by rw [fH_succ hB2]; simp [*])), (by first | exact sub_int rfl (by omega) | rfl | exact sub_eq rfl (by rw [fB_succ hA2]; simp [gV, gS, gN, gW, gK, *] <;> omega) | exact sub_eq rfl (by rw [fH_succ hB2]; simp [*])), trivial⟩, rfl⟩
            refine a_nil ?_
            refine bq_n ?_
            refine bq_n ?_
            refine tq_n ?_
            exact ⟨(), trivial, ⟨(by first | exact sub_int rfl (by omega) | rfl | exact sub_eq rfl (by rw [fB_succ hA2]; simp [gV, gS, gN, gW, gK, *] <;> omega) | exact sub_eq rfl (by rw [fH_succ hB2]; simp [*])), (by first | exact sub_int rfl (by omega) | rfl | exact sub_eq rfl (by rw [fB_succ hA2]; simp [gV, gS, gN, gW, gK, *] <;> omega) | exact sub_eq rfl (by rw [fH_succ hB2]; simp [*])), (by first | exact sub_int rfl (by omega) | rfl | exact sub_eq rfl (by rw [fB_succ hA2]; simp [gV, gS, gN, gW, gK, *] <;> omega) | exact sub_eq rfl (by rw [fH_succ hB2]; simp [*])), (by first | exact sub_int rfl (by omega) | rfl | exact sub_eq rfl (by rw [fB_succ hA2]; simp [gV, gS, gN, gW, gK, *] <;> omega) | exact sub_eq rfl (by rw [fH_succ hB2]; simp [*])), (by first | exact sub_int rfl (by omega) | rfl | exact sub_eq rfl (by rw [fB_succ hA2]; simp [gV, gS, gN, gW, gK, *] <;> omega) | exact sub_eq rfl (by rw [fH_succ hB2]; simp [*])), (by first | exact sub_int rfl (by omega) | rfl | exact sub_eq rfl (by rw [fB_succ hA2]; simp [gV, gS, gN, gW, gK, *] <;> omega) | exact sub_eq rfl (by rw [fH_succ hB2]; simp [*])), (by first | exact sub_int rfl (by omega) | rfl | exact sub_eq rfl (by rw [fB_succ hA2]; simp [gV, gS, gN, gW, gK, *] <;> omega) | exact sub_eq rfl (by rw [fH_succ hB2]; simp [*])), (by first | exact sub_int rfl (by omega) | rfl | exact sub_eq rfl (by rw [fB_succ hA2]; simp [gV, gS, gN, gW, gK, *] <;> omega) | exact sub_eq rfl (by rw [fH_succ hB2]; simp [*])), (by first | exact sub_int rfl (by omega) | rfl | exact sub_eq rfl (by rw [fB_succ hA2]; simp [gV, gS, gN, gW, gK, *] <;> omega) | exact sub_eq rfl (by rw [fH_succ hB2]; simp [*])), (by first | exact sub_int rfl (by omega) | rfl | exact sub_eq rfl (by rw [fB_succ hA2]; simp [gV, gS, gN, gW, gK, *] <;> omega) | exact sub_eq rfl (by rw [fH_succ hB2]; simp [*])), (by first | exact sub_int rfl (by omega) | rfl | exact sub_eq rfl (by rw [fB_succ hA2]; simp [gV, gS, gN, gW, gK, *] <;> omega) | exact sub_eq rfl (by rw [fH_succ hB2]; simp [*])), (by first | exact sub_int rfl (by omega) | rfl | exact sub_eq rfl (by rw [fB_succ hA2]; simp [gV, gS, gN, gW, gK, *] <;> omega) | exact sub_eq rfl (by rw [fH_succ hB2]; simp [*])), (by first | exact sub_int rfl (by omega) | rfl | exact sub_eq rfl (by rw [fB_succ hA2]; simp [gV, gS, gN, gW, gK, *] <;> omega) | exact sub_eq rfl (by rw [fH_succ hB2]; simp [*])), (by first | exact sub_int rfl (by omega) | rfl | exact sub_eq rfl (by rw [fB_succ hA2]; simp [gV, gS, gN, gW, gK, *] <;> omega) | exact sub_eq rfl (by rw [fH_succ hB2]; simp [*])), (by first | exact sub_int rfl (by omega) | rfl | exact sub_eq rfl (by rw [fB_succ hA2]; simp [gV, gS, gN, gW, gK, *] <;> omega) | exact sub_eq rfl (by rw [fH_succ hB2]; simp [*])), trivial⟩, rfl⟩
          refine a_op rfl (o_mv rfl) ?_
          refine a_off rfl ?_
          refine a_off rfl ?_
          refine a_off rfl ?_
          refine a_off rfl ?_
          refine a_op rfl (o_pkf rfl rfl) ?_
          refine a_op rfl (o_pkf rfl rfl) ?_
          refine a_op rfl (o_as rfl) ?_
          refine a_nil ?_
          refine bq_n ?_
          refine bq_n ?_
          refine tq_n ?_
          exact ⟨(), trivial, ⟨(by first | exact sub_int rfl (by omega) | rfl | exact sub_eq rfl (by rw [fB_succ hA2]; simp [gV, gS, gN, gW, gK, *] <;> omega) | exact sub_eq rfl (by rw [fH_succ hB2]; simp [*])), (by first | exact sub_int rfl (by omega) | rfl | exact sub_eq rfl (by rw [fB_succ hA2]; simp [gV, gS, gN, gW, gK, *] <;> omega) | exact sub_eq rfl (by rw [fH_succ hB2]; simp [*])), (by first | exact sub_int rfl (by omega) | rfl | exact sub_eq rfl (by rw [fB_succ hA2]; simp [gV, gS, gN, gW, gK, *] <;> omega) | exact sub_eq rfl (by rw [fH_succ hB2]; simp [*])), (by first | exact sub_int rfl (by omega) | rfl | exact sub_eq rfl (by rw [fB_succ hA2]; simp [gV, gS, gN, gW, gK, *] <;> omega) | exact sub_eq rfl (by rw [fH_succ hB2]; simp [*])), (by first | exact sub_int rfl (by omega) | rfl | exact sub_eq rfl (by rw [fB_succ hA2]; simp [gV, gS, gN, gW, gK, *] <;> omega) | exact sub_eq rfl (by rw [fH_succ hB2]; simp [*])), (by first | exact sub_int rfl (by omega) | rfl | exact sub_eq rfl (by rw [fB_succ hA2]; simp [gV, gS, gN, gW, gK, *] <;> omega) | exact sub_eq rfl (by rw [fH_succ hB2]; simp [*])), (by first | exact sub_int rfl (by omega) | rfl | exact sub_eq rfl (by rw [fB_succ hA2]; simp [gV, gS, gN, gW, gK, *] <;> omega) | exact sub_eq rfl (by rw [fH_succ hB2]; simp [*])), (by first | exact sub_int rfl (by omega) | rfl | exact sub_eq rfl (by rw [fB_succ hA2]; simp [gV, gS, gN, gW, gK, *] <;> omega) | exact sub_eq rfl (by rw [fH_succ hB2]; simp [*])), (by first | exact sub_int rfl (by omega) | rfl | exact sub_eq rfl (by rw [fB_succ hA2]; simp [gV, gS, gN, gW, gK, *] <;> omega) | exact sub_eq rfl (by rw [fH_succ hB2]; simp [*])), (by first | exact sub_int rfl (by omega) | rfl | exact sub_eq rfl (by rw [fB_succ hA2]; simp [gV, gS, gN, gW, gK, *] <;> omega) | exact sub_eq rfl (by rw [fH_succ hB2]; simp [*])), (by first | exact sub_int rfl (by omega) | rfl | exact sub_eq rfl (by rw [fB_succ hA2]; simp [gV, gS, gN, gW, gK, *] <;> omega) | exact sub_eq rfl (by rw [fH_succ hB2]; simp [*])), (by first | exact sub_int rfl (by omega) | rfl | exact sub_eq rfl (by rw [fB_succ hA2]; simp [gV, gS, gN, gW, gK, *] <;> omega) | exact sub_eq rfl (by rw [fH_succ hB2]; simp [*])), (by first | exact sub_int rfl (by omega) | rfl | exact sub_eq rfl (by rw [fB_succ hA2]; simp [gV, gS, gN, gW, gK, *] <;> omega) | exact sub_eq rfl (by rw [fH_succ hB2]; simp [*])), (by first | exact sub_int rfl (by omega) | rfl | exact sub_eq rfl (by rw [fB_succ hA2]; simp [gV, gS, gN, gW, gK, *] <;> omega) | exact sub_eq rfl (by rw [fH_succ hB2]; simp [*])), (by first | exact sub_int rfl (by omega) | rfl | exact sub_eq rfl (by rw [fB_succ hA2]; simp [gV, gS, gN, gW, gK, *] <;> omega) | exact sub_eq rfl (by rw [fH_succ hB2]; simp [*])), trivial⟩, rfl⟩
        refine a_op rfl (o_as rfl) ?_
        refine a_nil ?_
        refine tq_n ?_
        refine w_false rfl ?_
        refine awp_seq ?_
        refine w_reg (l := r9_20.toList) rfl r9_20_ok ?_
        refine a_if rfl (o_eq rfl rfl) (fun h21 => ?_) (fun h22 => ?_)
        · refine a_op rfl (o_as rfl) ?_
          refine a_nil ?_
          refine tq_n ?_
          refine w_true rfl ?_
          refine awp_seq ?_
          refine w_reg (l := r9_21.toList) rfl r9_21_ok ?_
          refine a_op rfl (o_as rfl) ?_
          refine a_nil ?_
          refine tq_n ?_
          refine w_reg (l := r9_22.toList) rfl r9_22_ok ?_
          refine a_ifb rfl (o_mv rfl) (fun h23 => ?_) (fun h24 => ?_)
          · refine a_op rfl (o_mv rfl) ?_
            refine a_off rfl ?_
            refine a_off rfl ?_
            refine a_off rfl ?_
            refine a_off rfl ?_
            refine a_off rfl ?_
            refine a_off rfl ?_
            refine a_off rfl ?_
            refine a_off rfl ?_
            refine a_off rfl ?_
            refine a_off rfl ?_
            refine a_op rfl (o_pkt rfl rfl) ?_
            refine a_op rfl (o_mv rfl) ?_
            refine a_off rfl ?_
            refine a_off rfl ?_
            refine a_off rfl ?_
            refine a_off rfl ?_
            refine a_off rfl ?_
            refine a_off rfl ?_
            refine a_off rfl ?_
            refine a_off rfl ?_
            refine a_off rfl ?_
            refine a_off rfl ?_
            refine a_off rfl ?_
            refine a_off rfl ?_
            refine a_off rfl ?_
            refine a_off rfl ?_
            refine a_off rfl ?_
            refine a_off rfl ?_
            refine a_off rfl ?_
            refine a_op rfl (o_pkt rfl rfl) ?_
            refine a_op rfl (o_as rfl) ?_
            refine a_nil ?_
            refine bq_n ?_
            refine bq_n ?_
            refine tq_n ?_
            exact ⟨(), trivial, ⟨(by first | exact sub_int rfl (by omega) | rfl | exact sub_eq rfl (by rw [fB_succ hA2]; simp [gV, gS, gN, gW, gK, *] <;> omega) | exact sub_eq rfl (by rw [fH_succ hB2]; simp [*])), (by first | exact sub_int rfl (by omega) | rfl | exact sub_eq rfl (by rw [fB_succ hA2]; simp [gV, gS, gN, gW, gK, *] <;> omega) | exact sub_eq rfl (by rw [fH_succ hB2]; simp [*])), (by first | exact sub_int rfl (by omega) | rfl | exact sub_eq rfl (by rw [fB_succ hA2]; simp [gV, gS, gN, gW, gK, *] <;> omega) | exact sub_eq rfl (by rw [fH_succ hB2]; simp [*])), (by first | exact sub_int rfl (by omega) | rfl | exact sub_eq rfl (by rw [fB_succ hA2]; simp [gV, gS, gN, gW, gK, *] <;> omega) | exact sub_eq rfl (by rw [fH_succ hB2]; simp [*])), (by first | exact sub_int rfl (by omega) | rfl | exact sub_eq rfl (by rw [fB_succ hA2]; simp [gV, gS, gN, gW, gK, *] <;> omega) | exact sub_eq rfl (by rw [fH_succ hB2]; simp [*])), (by first | exact sub_int rfl (by omega) | rfl | exact sub_eq rfl (by rw [fB_succ hA2]; simp [gV, gS, gN, gW, gK, *] <;> omega) | exact sub_eq rfl (by rw [fH_succ hB2]; simp [*])), (by first | exact sub_int rfl (by omega) | rfl | exact sub_eq rfl (by rw [fB_succ hA2]; simp [gV, gS, gN, gW, gK, *] <;> omega) | exact sub_eq rfl (by rw [fH_succ hB2]; simp [*])), (by first | exact sub_int rfl (by omega) | rfl | exact sub_eq rfl (by rw [fB_succ hA2]; simp [gV, gS, gN, gW, gK, *] <;> omega) | exact sub_eq rfl (by rw [fH_succ hB2]; simp [*])), (by first | exact sub_int rfl (by omega) | rfl | exact sub_eq rfl (by rw [fB_succ hA2]; simp [gV, gS, gN, gW, gK, *] <;> omega) | exact sub_eq rfl (by rw [fH_succ hB2]; simp [*])), (by first | exact sub_int rfl (by omega) | rfl | exact sub_eq rfl (by rw [fB_succ hA2]; simp [gV, gS, gN, gW, gK, *] <;> omega) | exact sub_eq rfl (by rw [fH_succ hB2]; simp [*])), (by first | exact sub_int rfl (by omega) | rfl | exact sub_eq rfl (by rw [fB_succ hA2]; simp [gV, gS, gN, gW, gK, *] <;> omega) | exact sub_eq rfl (by rw [fH_succ hB2]; simp [*])), (by first | exact sub_int rfl (by omega) | rfl | exact sub_eq rfl (by rw [fB_succ hA2]; simp [gV, gS, gN, gW, gK, *] <;> omega) | exact sub_eq rfl (by rw [fH_succ hB2]; simp [*])), (by first | exact sub_int rfl (by omega) | rfl | exact sub_eq rfl (by rw [fB_succ hA2]; simp [gV, gS, gN, gW, gK, *] <;> omega) | exact sub_eq rfl (by rw [fH_succ hB2]; simp [*])), (by first | exact sub_int rfl (by omega) | rfl | exact sub_eq rfl (by rw [fB_succ hA2]; simp [gV, gS, gN, gW, gK, *] <;> omega) | exact sub_eq rfl (by rw [fH_succ hB2]; simp [*])), (by first | exact sub_int rfl (by omega) | rfl | exact sub_eq rfl (by rw [fB_succ hA2]; simp [gV, gS, gN, gW, gK, *] <;> omega) | exact sub_eq rfl (by rw [fH_succ hB2]; simp [*])), trivial⟩, rfl⟩
          refine a_op rfl (o_mv rfl) ?_
          refine a_op rfl ((by first | exact o_fa tf37_2 rfl rfl | exact o_fap tf37_2 rfl rfl)) ?_
          refine a_op rfl ((by first | exact o_ld tg3 rfl rfl | exact o_ldp tg3 rfl rfl rfl rfl)) ?_
          refine a_op rfl (o_mv rfl) ?_
          refine a_if rfl (o_le rfl rfl) (fun h25 => ?_) (fun h26 => ?_)
          · refine a_op rfl (o_mv rfl) ?_
            refine a_op rfl (o_mv rfl) ?_
            refine a_op rfl ((by first | exact o_fa tf37_3 rfl rfl | exact o_fap tf37_3 rfl rfl)) ?_
            refine a_op rfl ((by first | exact o_ld tg3 rfl rfl | exact o_ldp tg3 rfl rfl rfl rfl)) ?_
            refine a_if rfl (o_le rfl rfl) (fun h27 => ?_) (fun h28 => ?_)
            · refine a_op rfl (o_pkt rfl rfl) ?_
              refine a_op rfl (o_pkf rfl rfl) ?_
              refine a_op rfl (o_mv rfl) ?_
              refine a_off rfl ?_
              refine a_off rfl ?_
              refine a_off rfl ?_
              refine a_off rfl ?_
              refine a_off rfl ?_
              refine a_off rfl ?_
              refine a_off rfl ?_
              refine a_off rfl ?_
              refine a_off rfl ?_
              refine a_off rfl ?_
              refine a_off rfl ?_
              refine a_off rfl ?_
              refine a_off rfl ?_
              refine a_off rfl ?_
              refine a_off rfl ?_
              refine a_off rfl ?_
              refine a_off rfl ?_
              refine a_op rfl (o_pkt rfl rfl) ?_
              refine a_op rfl (o_as rfl) ?_
              refine a_nil ?_
              refine bq_n ?_
              refine bq_n ?_
              refine tq_n ?_
              exact ⟨(), trivial, ⟨(by first | exact sub_int rfl (by omega) | rfl | exact sub_eq rfl (by rw [fB_succ hA2]; simp [gV, gS, gN, gW, gK, *] <;> omega) | exact sub_eq rfl (by rw [fH_succ hB2]; simp [*])), (by first | exact sub_int rfl (by omega) | rfl | exact sub_eq rfl (by rw [fB_succ hA2]; simp [gV, gS, gN, gW, gK, *] <;> omega) | exact sub_eq rfl (by rw [fH_succ hB2]; simp [*])), (by first | exact sub_int rfl (by omega) | rfl | exact sub_eq rfl (by rw [fB_succ hA2]; simp [gV, gS, gN, gW, gK, *] <;> omega) | exact sub_eq rfl (by rw [fH_succ hB2]; simp [*])), (by first | exact sub_int rfl (by omega) | rfl | exact sub_eq rfl (by rw [fB_succ hA2]; simp [gV, gS, gN, gW, gK, *] <;> omega) | exact sub_eq rfl (by rw [fH_succ hB2]; simp [*])), (by first | exact sub_int rfl (by omega) | rfl | exact sub_eq rfl (by rw [fB_succ hA2]; simp [gV, gS, gN, gW, gK, *] <;> omega) | exact sub_eq rfl (by rw [fH_succ hB2]; simp [*])), (by first | exact sub_int rfl (by omega) | rfl | exact sub_eq rfl (by rw [fB_succ hA2]; simp [gV, gS, gN, gW, gK, *] <;> omega) | exact sub_eq rfl (by rw [fH_succ hB2]; simp [*])), (by first | exact sub_int rfl (by omega) | rfl | exact sub_eq rfl (by rw [fB_succ hA2]; simp [gV, gS, gN, gW, gK, *] <;> omega) | exact sub_eq rfl (by rw [fH_succ hB2]; simp [*])), (by first | exact sub_int rfl (by omega) | rfl | exact sub_eq rfl (by rw [fB_succ hA2]; simp [gV, gS, gN, gW, gK, *] <;> omega) | exact sub_eq rfl (by rw [fH_succ hB2]; simp [*])), (by first | exact sub_int rfl (by omega) | rfl | exact sub_eq rfl (by rw [fB_succ hA2]; simp [gV, gS, gN, gW, gK, *] <;> omega) | exact sub_eq rfl (by rw [fH_succ hB2]; simp [*])), (by first | exact sub_int rfl (by omega) | rfl | exact sub_eq rfl (by rw [fB_succ hA2]; simp [gV, gS, gN, gW, gK, *] <;> omega) | exact sub_eq rfl (by rw [fH_succ hB2]; simp [*])), (by first | exact sub_int rfl (by omega) | rfl | exact sub_eq rfl (by rw [fB_succ hA2]; simp [gV, gS, gN, gW, gK, *] <;> omega) | exact sub_eq rfl (by rw [fH_succ hB2]; simp [*])), (by first | exact sub_int rfl (by omega) | rfl | exact sub_eq rfl (by rw [fB_succ hA2]; simp [gV, gS, gN, gW, gK, *] <;> omega) | exact sub_eq rfl (by rw [fH_succ hB2]; simp [*])), (by first | exact sub_int rfl (by omega) | rfl | exact sub_eq rfl (by rw [fB_succ hA2]; simp [gV, gS, gN, gW, gK, *] <;> omega) | exact sub_eq rfl (by rw [fH_succ hB2]; simp [*])), (by first | exact sub_int rfl (by omega) | rfl | exact sub_eq rfl (by rw [fB_succ hA2]; simp [gV, gS, gN, gW, gK, *] <;> omega) | exact sub_eq rfl (by rw [fH_succ hB2]; simp [*])), (by first | exact sub_int rfl (by omega) | rfl | exact sub_eq rfl (by rw [fB_succ hA2]; simp [gV, gS, gN, gW, gK, *] <;> omega) | exact sub_eq rfl (by rw [fH_succ hB2]; simp [*])), trivial⟩, rfl⟩
            refine a_op rfl (o_pkt rfl rfl) ?_
            refine a_op rfl (o_pkf rfl rfl) ?_
            refine a_op rfl (o_mv rfl) ?_
            refine a_op rfl ((by first | exact o_fa tf37_2 rfl rfl | exact o_fap tf37_2 rfl rfl)) ?_
            refine a_op rfl ((by first | exact o_ld tg3 rfl rfl | exact o_ldp tg3 rfl rfl rfl rfl)) ?_
            refine a_op rfl ((by first | exact o_fa tf37_3 rfl rfl | exact o_fap tf37_3 rfl rfl)) ?_
            refine a_op rfl ((by first | exact o_ld tg3 rfl rfl | exact o_ldp tg3 rfl rfl rfl rfl)) ?_
            refine a_if rfl (o_gt rfl rfl) (fun h29 => ?_) (fun h30 => ?_)
            · refine a_op rfl (o_mv rfl) ?_
              refine a_op rfl (o_mv rfl) ?_
              refine a_op rfl ((by first | exact o_fa tf37_2 rfl rfl | exact o_fap tf37_2 rfl rfl)) ?_
              refine a_op rfl ((by first | exact o_ld tg3 rfl rfl | exact o_ldp tg3 rfl rfl rfl rfl)) ?_
              refine a_if rfl (o_ge rfl rfl) (fun h31 => ?_) (fun h32 => ?_)
              · refine a_op rfl (o_mv rfl) ?_
                refine a_off rfl ?_
                refine a_off rfl ?_
                refine a_off rfl ?_
                refine a_off rfl ?_
                refine a_op rfl (o_pkt rfl rfl) ?_
                refine a_op rfl (o_pkt rfl rfl) ?_
                refine a_op rfl (o_pkf rfl rfl) ?_
                refine a_op rfl (o_as rfl) ?_
                refine a_nil ?_
                refine bq_n ?_
                refine bq_n ?_
                refine tq_n ?_
                exact ⟨(), trivial, ⟨(by first | exact sub_int rfl (by omega) | rfl | exact sub_eq rfl (by rw [fB_succ hA2]; simp [gV, gS, gN, gW, gK, *] <;> omega) | exact sub_eq rfl (by rw [fH_succ hB2]; simp [*])), (by first | exact sub_int rfl (by omega) | rfl | exact sub_eq rfl (by rw [fB_succ hA2]; simp [gV, gS, gN, gW, gK, *] <;> omega) | exact sub_eq rfl (by rw [fH_succ hB2]; simp [*])), (by first | exact sub_int rfl (by omega) | rfl | exact sub_eq rfl (by rw [fB_succ hA2]; simp [gV, gS, gN, gW, gK, *] <;> omega) | exact sub_eq rfl (by rw [fH_succ hB2]; simp [*])), (by first | exact sub_int rfl (by omega) | rfl | exact sub_eq rfl (by rw [fB_succ hA2]; simp [gV, gS, gN, gW, gK, *] <;> omega) | exact sub_eq rfl (by rw [fH_succ hB2]; simp [*])), (by first | exact sub_int rfl (by omega) | rfl | exact sub_eq rfl (by rw [fB_succ hA2]; simp [gV, gS, gN, gW, gK, *] <;> omega) | exact sub_eq rfl (by rw [fH_succ hB2]; simp [*])), (by first | exact sub_int rfl (by omega) | rfl | exact sub_eq rfl (by rw [fB_succ hA2]; simp [gV, gS, gN, gW, gK, *] <;> omega) | exact sub_eq rfl (by rw [fH_succ hB2]; simp [*])), (by first | exact sub_int rfl (by omega) | rfl | exact sub_eq rfl (by rw [fB_succ hA2]; simp [gV, gS, gN, gW, gK, *] <;> omega) | exact sub_eq rfl (by rw [fH_succ hB2]; simp [*])), (by first | exact sub_int rfl (by omega) | rfl | exact sub_eq rfl (by rw [fB_succ hA2]; simp [gV, gS, gN, gW, gK, *] <;> omega) | exact sub_eq rfl (by rw [fH_succ hB2]; simp [*])), (by first | exact sub_int rfl (by omega) | rfl | exact sub_eq rfl (by rw [fB_succ hA2]; simp [gV, gS, gN, gW, gK, *] <;> omega) | exact sub_eq rfl (by rw [fH_succ hB2]; simp [*])), (by first | exact sub_int rfl (by omega) | rfl | exact sub_eq rfl (by rw [fB_succ hA2]; simp [gV, gS, gN, gW, gK, *] <;> omega) | exact sub_eq rfl (by rw [fH_succ hB2]; simp [*])), (by first | exact sub_int rfl (by omega) | rfl | exact sub_eq rfl (by rw [fB_succ hA2]; simp [gV, gS, gN, gW, gK, *] <;> omega) | exact sub_eq rfl (by rw [fH_succ hB2]; simp [*])), (by first | exact sub_int rfl (by omega) | rfl | exact sub_eq rfl (by rw [fB_succ hA2]; simp [gV, gS, gN, gW, gK, *] <;> omega) | exact sub_eq rfl (by rw [fH_succ hB2]; simp [*])), (by first | exact sub_int rfl (by omega) | rfl | exact sub_eq rfl (by rw [fB_succ hA2]; simp [gV, gS, gN, gW, gK, *] <;> omega) | exact sub_eq rfl (by rw [fH_succ hB2]; simp [*])), (by first | exact sub_int rfl (by omega) | rfl | exact sub_eq rfl (by rw [fB_succ hA2]; simp [gV, gS, gN, gW, gK, *] <;> omega) | exact sub_eq rfl (by rw [fH_succ hB2]; simp [*])), (by first | exact sub_int rfl (by omega) | rfl | exact sub_eq rfl (by rw [fB_succ hA2]; simp [gV, gS, gN, gW, gK, *] <;> omega) | exact sub_eq rfl (by rw [fH_succ hB2]; simp [*])), trivial⟩, rfl⟩
              refine a_op rfl (o_mv rfl) ?_
              refine a_op rfl (o_mv rfl) ?_
              refine a_op rfl ((by first | exact o_fa tf37_3 rfl rfl | exact o_fap tf37_3 rfl rfl)) ?_
              refine a_op rfl ((by first | exact o_ld tg3 rfl rfl | exact o_ldp tg3 rfl rfl rfl rfl)) ?_
              refine a_op rfl (o_le rfl rfl) ?_
              refine a_op rfl (o_pkf rfl rfl) ?_
              refine a_op rfl (o_pkt rfl rfl) ?_
              refine a_op rfl (o_pkf rfl rfl) ?_
              refine a_ifb rfl (o_as rfl) (fun h33 => ?_) (fun h34 => ?_)
              · refine a_nil ?_
                refine bq_n ?_
                refine bq_n ?_
                refine tq_n ?_
                exact ⟨(), trivial, ⟨(by first | exact sub_int rfl (by omega) | rfl | exact sub_eq rfl (by rw [fB_succ hA2]; simp [gV, gS, gN, gW, gK, *] <;> omega) | exact sub_eq rfl (by rw [fH_succ hB2]; simp [*])), (by first | exact sub_int rfl (by omega) | rfl | exact sub_eq rfl (by rw [fB_succ hA2]; simp [gV, gS, gN, gW, gK, *] <;> omega) | exact sub_eq rfl (by rw [fH_succ hB2]; simp [*])), (by first | exact sub_int rfl (by omega) | rfl | exact sub_eq rfl (by rw [fB_succ hA2]; simp [gV, gS, gN, gW, gK, *] <;> omega) | exact sub_eq rfl (by rw [fH_succ hB2]; simp [*])), (by first | exact sub_int rfl (by omega) | rfl | exact sub_eq rfl (by rw [fB_succ hA2]; simp [gV, gS, gN, gW, gK, *] <;> omega) | exact sub_eq rfl (by rw [fH_succ hB2]; simp [*])), (by first | exact sub_int rfl (by omega) | rfl | exact sub_eq rfl (by rw [fB_succ hA2]; simp [gV, gS, gN, gW, gK, *] <;> omega) | exact sub_eq rfl (by rw [fH_succ hB2]; simp [*])), (by first | exact sub_int rfl (by omega) | rfl | exact sub_eq rfl (by rw [fB_succ hA2]; simp [gV, gS, gN, gW, gK, *] <;> omega) | exact sub_eq rfl (by rw [fH_succ hB2]; simp [*])), (by first | exact sub_int rfl (by omega) | rfl | exact sub_eq rfl (by rw [fB_succ hA2]; simp [gV, gS, gN, gW, gK, *] <;> omega) | exact sub_eq rfl (by rw [fH_succ hB2]; simp [*])), (by first | exact sub_int rfl (by omega) | rfl | exact sub_eq rfl (by rw [fB_succ hA2]; simp [gV, gS, gN, gW, gK, *] <;> omega) | exact sub_eq rfl (by rw [fH_succ hB2]; simp [*])), (by first | exact sub_int rfl (by omega) | rfl | exact sub_eq rfl (by rw [fB_succ hA2]; simp [gV, gS, gN, gW, gK, *] <;> omega) | exact sub_eq rfl (by rw [fH_succ hB2]; simp [*])), (by first | exact sub_int rfl (by omega) | rfl | exact sub_eq rfl (by rw [fB_succ hA2]; simp [gV, gS, gN, gW, gK, *] <;> omega) | exact sub_eq rfl (by rw [fH_succ hB2]; simp [*])), (by first | exact sub_int rfl (by omega) | rfl | exact sub_eq rfl (by rw [fB_succ hA2]; simp [gV, gS, gN, gW, gK, *] <;> omega) | exact sub_eq rfl (by rw [fH_succ hB2]; simp [*])), (by first | exact sub_int rfl (by omega) | rfl | exact sub_eq rfl (by rw [fB_succ hA2]; simp [gV, gS, gN, gW, gK, *] <;> omega) | exact sub_eq rfl (by rw [fH_succ hB2]; simp [*])), (by first | exact sub_int rfl (by omega) | rfl | exact sub_eq rfl (by rw [fB_succ hA2]; simp [gV, gS, gN, gW, gK, *] <;> omega) | exact sub_eq rfl (by rw [fH_succ hB2]; simp [*])), (by first | exact sub_int rfl (by omega) | rfl | exact sub_eq rfl (by rw [fB_succ hA2]; simp [gV, gS, gN, gW, gK, *] <;> omega) | exact sub_eq rfl (by rw [fH_succ hB2]; simp [*])), (by first | exact sub_int rfl (by omega) | rfl | exact sub_eq rfl (by rw [fB_succ hA2]; simp [gV, gS, gN, gW, gK, *] <;> omega) | exact sub_eq rfl (by rw [fH_succ hB2]; simp [*])), trivial⟩, rfl⟩
              refine a_nil ?_
              refine bq_n ?_
              refine bq_n ?_
              refine tq_n ?_
              exact ⟨(), trivial, ⟨(by first | exact sub_int rfl (by omega) | rfl | exact sub_eq rfl (by rw [fB_succ hA2]; simp [gV, gS, gN, gW, gK, *] <;> omega) | exact sub_eq rfl (by rw [fH_succ hB2]; simp [*])), (by first | exact sub_int rfl (by omega) | rfl | exact sub_eq rfl (by rw [fB_succ hA2]; simp [gV, gS, gN, gW, gK, *] <;> omega) | exact sub_eq rfl (by rw [fH_succ hB2]; simp [*])), (by first | exact sub_int rfl (by omega) | rfl | exact sub_eq rfl (by rw [fB_succ hA2]; simp [gV, gS, gN, gW, gK, *] <;> omega) | exact sub_eq rfl (by rw [fH_succ hB2]; simp [*])), (by first | exact sub_int rfl (by omega) | rfl | exact sub_eq rfl (by rw [fB_succ hA2]; simp [gV, gS, gN, gW, gK, *] <;> omega) | exact sub_eq rfl (by rw [fH_succ hB2]; simp [*])), (by first | exact sub_int rfl (by omega) | rfl | exact sub_eq rfl (by rw [fB_succ hA2]; simp [gV, gS, gN, gW, gK, *] <;> omega) | exact sub_eq rfl (by rw [fH_succ hB2]; simp [*])), (by first | exact sub_int rfl (by omega) | rfl | exact sub_eq rfl (by rw [fB_succ hA2]; simp [gV, gS, gN, gW, gK, *] <;> omega) | exact sub_eq rfl (by rw [fH_succ hB2]; simp [*])), (by first | exact sub_int rfl (by omega) | rfl | exact sub_eq rfl (by rw [fB_succ hA2]; simp [gV, gS, gN, gW, gK, *] <;> omega) | exact sub_eq rfl (by rw [fH_succ hB2]; simp [*])), (by first | exact sub_int rfl (by omega) | rfl | exact sub_eq rfl (by rw [fB_succ hA2]; simp [gV, gS, gN, gW, gK, *] <;> omega) | exact sub_eq rfl (by rw [fH_succ hB2]; simp [*])), (by first | exact sub_int rfl (by omega) | rfl | exact sub_eq rfl (by rw [fB_succ hA2]; simp [gV, gS, gN, gW, gK, *] <;> omega) | exact sub_eq rfl (by rw [fH_succ hB2]; simp [*])), (by first | exact sub_int rfl (by omega) | rfl | exact sub_eq rfl (by rw [fB_succ hA2]; simp [gV, gS, gN, gW, gK, *] <;> omega) | exact sub_eq rfl (by rw [fH_succ hB2]; simp [*])), (by first | exact sub_int rfl (by omega) | rfl | exact sub_eq rfl (by rw [fB_succ hA2]; simp [gV, gS, gN, gW, gK, *] <;> omega) | exact sub_eq rfl (by rw [fH_succ hB2]; simp [*])), (by first | exact sub_int rfl (by omega) | rfl | exact sub_eq rfl (by rw [fB_succ hA2]; simp [gV, gS, gN, gW, gK, *] <;> omega) | exact sub_eq rfl (by rw [fH_succ hB2]; simp [*])), (by first | exact sub_int rfl (by omega) | rfl | exact sub_eq rfl (by rw [fB_succ hA2]; simp [gV, gS, gN, gW, gK, *] <;> omega) | exact sub_eq rfl (by rw [fH_succ hB2]; simp [*])), (by first | exact sub_int rfl (by omega) | rfl | exact sub_eq rfl (by rw [fB_succ hA2]; simp [gV, gS, gN, gW, gK, *] <;> omega) | exact sub_eq rfl (by rw [fH_succ hB2]; simp [*])), (by first | exact sub_int rfl (by omega) | rfl | exact sub_eq rfl (by rw [fB_succ hA2]; simp [gV, gS, gN, gW, gK, *] <;> omega) | exact sub_eq rfl (by rw [fH_succ hB2]; simp [*])), trivial⟩, rfl⟩
            refine a_op rfl (o_mv rfl) ?_
            refine a_off rfl ?_
            refine a_off rfl ?_
            refine a_off rfl ?_
            refine a_off rfl ?_
            refine a_off rfl ?_
            refine a_off rfl ?_
            refine a_off rfl ?_
            refine a_off rfl ?_
            refine a_off rfl ?_
            refine a_off rfl ?_
            refine a_op rfl (o_pkf rfl rfl) ?_
            refine a_op rfl (o_pkf rfl rfl) ?_
            refine a_op rfl (o_as rfl) ?_
            refine a_nil ?_
            refine bq_n ?_
            refine bq_n ?_
            refine tq_n ?_
            exact ⟨(), trivial, ⟨(by first | exact sub_int rfl (by omega) | rfl | exact sub_eq rfl (by rw [fB_succ hA2]; simp [gV, gS, gN, gW, gK, *] <;> omega) | exact sub_eq rfl (by rw [fH_succ hB2]; simp [*])), (by first | exact sub_int rfl (by omega) | rfl | exact sub_eq rfl (by rw [fB_succ hA2]; simp [gV, gS, gN, gW, gK, *] <;> omega) | exact sub_eq rfl (by rw [fH_succ hB2]; simp [*])), (by first | exact sub_int rfl (by omega) | rfl | exact sub_eq rfl (by rw [fB_succ hA2]; simp [gV, gS, gN, gW, gK, *] <;> omega) | exact sub_eq rfl (by rw [fH_succ hB2]; simp [*])), (by first | exact sub_int rfl (by omega) | rfl | exact sub_eq rfl (by rw [fB_succ hA2]; simp [gV, gS, gN, gW, gK, *] <;> omega) | exact sub_eq rfl (by rw [fH_succ hB2]; simp [*])), (by first | exact sub_int rfl (by omega) | rfl | exact sub_eq rfl (by rw [fB_succ hA2]; simp [gV, gS, gN, gW, gK, *] <;> omega) | exact sub_eq rfl (by rw [fH_succ hB2]; simp [*])), (by first | exact sub_int rfl (by omega) | rfl | exact sub_eq rfl (by rw [fB_succ hA2]; simp [gV, gS, gN, gW, gK, *] <;> omega) | exact sub_eq rfl (by rw [fH_succ hB2]; simp [*])), (by first | exact sub_int rfl (by omega) | rfl | exact sub_eq rfl (by rw [fB_succ hA2]; simp [gV, gS, gN, gW, gK, *] <;> omega) | exact sub_eq rfl (by rw [fH_succ hB2]; simp [*])), (by first | exact sub_int rfl (by omega) | rfl | exact sub_eq rfl (by rw [fB_succ hA2]; simp [gV, gS, gN, gW, gK, *] <;> omega) | exact sub_eq rfl (by rw [fH_succ hB2]; simp [*])), (by first | exact sub_int rfl (by omega) | rfl | exact sub_eq rfl (by rw [fB_succ hA2]; simp [gV, gS, gN, gW, gK, *] <;> omega) | exact sub_eq rfl (by rw [fH_succ hB2]; simp [*])), (by first | exact sub_int rfl (by omega) | rfl | exact sub_eq rfl (by rw [fB_succ hA2]; simp [gV, gS, gN, gW, gK, *] <;> omega) | exact sub_eq rfl (by rw [fH_succ hB2]; simp [*])), (by first | exact sub_int rfl (by omega) | rfl | exact sub_eq rfl (by rw [fB_succ hA2]; simp [gV, gS, gN, gW, gK, *] <;> omega) | exact sub_eq rfl (by rw [fH_succ hB2]; simp [*])), (by first | exact sub_int rfl (by omega) | rfl | exact sub_eq rfl (by rw [fB_succ hA2]; simp [gV, gS, gN, gW, gK, *] <;> omega) | exact sub_eq rfl (by rw [fH_succ hB2]; simp [*])), (by first | exact sub_int rfl (by omega) | rfl | exact sub_eq rfl (by rw [fB_succ hA2]; simp [gV, gS, gN, gW, gK, *] <;> omega) | exact sub_eq rfl (by rw [fH_succ hB2]; simp [*])), (by first | exact sub_int rfl (by omega) | rfl | exact sub_eq rfl (by rw [fB_succ hA2]; simp [gV, gS, gN, gW, gK, *] <;> omega) | exact sub_eq rfl (by rw [fH_succ hB2]; simp [*])), (by first | exact sub_int rfl (by omega) | rfl | exact sub_eq rfl (by rw [fB_succ hA2]; simp [gV, gS, gN, gW, gK, *] <;> omega) | exact sub_eq rfl (by rw [fH_succ hB2]; simp [*])), trivial⟩, rfl⟩
          refine a_op rfl (o_mv rfl) ?_
          refine a_off rfl ?_
          refine a_off rfl ?_
          refine a_off rfl ?_
          refine a_off rfl ?_
          refine a_op rfl (o_pkf rfl rfl) ?_
          refine a_op rfl (o_pkf rfl rfl) ?_
          refine a_op rfl (o_mv rfl) ?_
          refine a_op rfl ((by first | exact o_fa tf37_2 rfl rfl | exact o_fap tf37_2 rfl rfl)) ?_
          refine a_op rfl ((by first | exact o_ld tg3 rfl rfl | exact o_ldp tg3 rfl rfl rfl rfl)) ?_
          refine a_op rfl ((by first | exact o_fa tf37_3 rfl rfl | exact o_fap tf37_3 rfl rfl)) ?_
          refine a_op rfl ((by first | exact o_ld tg3 rfl rfl | exact o_ldp tg3 rfl rfl rfl rfl)) ?_
          refine a_if rfl (o_gt rfl rfl) (fun h35 => ?_) (fun h36 => ?_)
          · refine a_op rfl (o_mv rfl) ?_
            refine a_op rfl (o_mv rfl) ?_
            refine a_op rfl ((by first | exact o_fa tf37_2 rfl rfl | exact o_fap tf37_2 rfl rfl)) ?_
            refine a_op rfl ((by first | exact o_ld tg3 rfl rfl | exact o_ldp tg3 rfl rfl rfl rfl)) ?_
            refine a_if rfl (o_ge rfl rfl) (fun h37 => ?_) (fun h38 => ?_)
            · refine a_op rfl (o_mv rfl) ?_
              refine a_off rfl ?_
              refine a_off rfl ?_
              refine a_off rfl ?_
              refine a_off rfl ?_
              refine a_op rfl (o_pkt rfl rfl) ?_
              refine a_op rfl (o_pkt rfl rfl) ?_
              refine a_op rfl (o_pkf rfl rfl) ?_
              refine a_op rfl (o_as rfl) ?_
              refine a_nil ?_
              refine bq_n ?_
              refine bq_n ?_
              refine tq_n ?_
              exact ⟨(), trivial, ⟨(by first | exact sub_int rfl (by omega) | rfl | exact sub_eq rfl (by rw [fB_succ hA2]; simp [gV, gS, gN, gW, gK, *] <;> omega) | exact sub_eq rfl (by rw [fH_succ hB2]; simp [*])), (by first | exact sub_int rfl (by omega) | rfl | exact sub_eq rfl (by rw [fB_succ hA2]; simp [gV, gS, gN, gW, gK, *] <;> omega) | exact sub_eq rfl (by rw [fH_succ hB2]; simp [*])), (by first | exact sub_int rfl (by omega) | rfl | exact sub_eq rfl (by rw [fB_succ hA2]; simp [gV, gS, gN, gW, gK, *] <;> omega) | exact sub_eq rfl (by rw [fH_succ hB2]; simp [*])), (by first | exact sub_int rfl (by omega) | rfl | exact sub_eq rfl (by rw [fB_succ hA2]; simp [gV, gS, gN, gW, gK, *] <;> omega) | exact sub_eq rfl (by rw [fH_succ hB2]; simp [*])), (by first | exact sub_int rfl (by omega) | rfl | exact sub_eq rfl (by rw [fB_succ hA2]; simp [gV, gS, gN, gW, gK, *] <;> omega) | exact sub_eq rfl (by rw [fH_succ hB2]; simp [*])), (by first | exact sub_int rfl (by omega) | rfl | exact sub_eq rfl (by rw [fB_succ hA2]; simp [gV, gS, gN, gW, gK, *] <;> omega) | exact sub_eq rfl (by rw [fH_succ hB2]; simp [*])), (by first | exact sub_int rfl (by omega) | rfl | exact sub_eq rfl (by rw [fB_succ hA2]; simp [gV, gS, gN, gW, gK, *] <;> omega) | exact sub_eq rfl (by rw [fH_succ hB2]; simp [*])), (by first | exact sub_int rfl (by omega) | rfl | exact sub_eq rfl (by rw [fB_succ hA2]; simp [gV, gS, gN, gW, gK, *] <;> omega) | exact sub_eq rfl (by rw [fH_succ hB2]; simp [*])), (by first | exact sub_int rfl (by omega) | rfl | exact sub_eq rfl (by rw [fB_succ hA2]; simp [gV, gS, gN, gW, gK, *] <;> omega) | exact sub_eq rfl (by rw [fH_succ hB2]; simp [*])), (by first | exact sub_int rfl (by omega) | rfl | exact sub_eq rfl (by rw [fB_succ hA2]; simp [gV, gS, gN, gW, gK, *] <;> omega) | exact sub_eq rfl (by rw [fH_succ hB2]; simp [*])), (by first | exact sub_int rfl (by omega) | rfl | exact sub_eq rfl (by rw [fB_succ hA2]; simp [gV, gS, gN, gW, gK, *] <;> omega) | exact sub_eq rfl (by rw [fH_succ hB2]; simp [*])), (by first | exact sub_int rfl (by omega) | rfl | exact sub_eq rfl (by rw [fB_succ hA2]; simp [gV, gS, gN, gW, gK, *] <;> omega) | exact sub_eq rfl (by rw [fH_succ hB2]; simp [*])), (by first | exact sub_int rfl (by omega) | rfl | exact sub_eq rfl (by rw [fB_succ hA2]; simp [gV, gS, gN, gW, gK, *] <;> omega) | exact sub_eq rfl (by rw [fH_succ hB2]; simp [*])), (by first | exact sub_int rfl (by omega) | rfl | exact sub_eq rfl (by rw [fB_succ hA2]; simp [gV, gS, gN, gW, gK, *] <;> omega) | exact sub_eq rfl (by rw [fH_succ hB2]; simp [*])), (by first | exact sub_int rfl (by omega) | rfl | exact sub_eq rfl (by rw [fB_succ hA2]; simp [gV, gS, gN, gW, gK, *] <;> omega) | exact sub_eq rfl (by rw [fH_succ hB2]; simp [*])), trivial⟩, rfl⟩
            refine a_op rfl (o_mv rfl) ?_
            refine a_op rfl (o_mv rfl) ?_
            refine a_op rfl ((by first | exact o_fa tf37_3 rfl rfl | exact o_fap tf37_3 rfl rfl)) ?_
            refine a_op rfl ((by first | exact o_ld tg3 rfl rfl | exact o_ldp tg3 rfl rfl rfl rfl)) ?_
            refine a_op rfl (o_le rfl rfl) ?_
            refine a_op rfl (o_pkf rfl rfl) ?_
            refine a_op rfl (o_pkt rfl rfl) ?_
            refine a_op rfl (o_pkf rfl rfl) ?_
            refine a_ifb rfl (o_as rfl) (fun h39 => ?_) (fun h40 => ?_)
            · refine a_nil ?_
              refine bq_n ?_
              refine bq_n ?_
              refine tq_n ?_
              exact ⟨(), trivial, ⟨(by first | exact sub_int rfl (by omega) | rfl | exact sub_eq rfl (by rw [fB_succ hA2]; simp [gV, gS, gN, gW, gK, *] <;> omega) | exact sub_eq rfl (by rw [fH_succ hB2]; simp [*])), (by first | exact sub_int rfl (by omega) | rfl | exact sub_eq rfl (by rw [fB_succ hA2]; simp [gV, gS, gN, gW, gK, *] <;> omega) | exact sub_eq rfl (by rw [fH_succ hB2]; simp [*])), (by first | exact sub_int rfl (by omega) | rfl | exact sub_eq rfl (by rw [fB_succ hA2]; simp [gV, gS, gN, gW, gK, *] <;> omega) | exact sub_eq rfl (by rw [fH_succ hB2]; simp [*])), (by first | exact sub_int rfl (by omega) | rfl | exact sub_eq rfl (by rw [fB_succ hA2]; simp [gV, gS, gN, gW, gK, *] <;> omega) | exact sub_eq rfl (by rw [fH_succ hB2]; simp [*])), (by first | exact sub_int rfl (by omega) | rfl | exact sub_eq rfl (by rw [fB_succ hA2]; simp [gV, gS, gN, gW, gK, *] <;> omega) | exact sub_eq rfl (by rw [fH_succ hB2]; simp [*])), (by first | exact sub_int rfl (by omega) | rfl | exact sub_eq rfl (by rw [fB_succ hA2]; simp [gV, gS, gN, gW, gK, *] <;> omega) | exact sub_eq rfl (by rw [fH_succ hB2]; simp [*])), (by first | exact sub_int rfl (by omega) | rfl | exact sub_eq rfl (by rw [fB_succ hA2]; simp [gV, gS, gN, gW, gK, *] <;> omega) | exact sub_eq rfl (by rw [fH_succ hB2]; simp [*])), (by first | exact sub_int rfl (by omega) | rfl | exact sub_eq rfl (by rw [fB_succ hA2]; simp [gV, gS, gN, gW, gK, *] <;> omega) | exact sub_eq rfl (by rw [fH_succ hB2]; simp [*])), (by first | exact sub_int rfl (by omega) | rfl | exact sub_eq rfl (by rw [fB_succ hA2]; simp [gV, gS, gN, gW, gK, *] <;> omega) | exact sub_eq rfl (by rw [fH_succ hB2]; simp [*])), (by first | exact sub_int rfl (by omega) | rfl | exact sub_eq rfl (by rw [fB_succ hA2]; simp [gV, gS, gN, gW, gK, *] <;> omega) | exact sub_eq rfl (by rw [fH_succ hB2]; simp [*])), (by first | exact sub_int rfl (by omega) | rfl | exact sub_eq rfl (by rw [fB_succ hA2]; simp [gV, gS, gN, gW, gK, *] <;> omega) | exact sub_eq rfl (by rw [fH_succ hB2]; simp [*])), (by first | exact sub_int rfl (by omega) | rfl | exact sub_eq rfl (by rw [fB_succ hA2]; simp [gV, gS, gN, gW, gK, *] <;> omega) | exact sub_eq rfl (by rw [fH_succ hB2]; simp [*])), (by first | exact sub_int rfl (by omega) | rfl | exact sub_eq rfl (by rw [fB_succ hA2]; simp [gV, gS, gN, gW, gK, *] <;> omega) | exact sub_eq rfl (by rw [fH_succ hB2]; simp [*])), (by first | exact sub_int rfl (by omega) | rfl | exact sub_eq rfl (by rw [fB_succ hA2]; simp [gV, gS, gN, gW, gK, *] <;> omega) | exact sub_eq rfl (by rw [fH_succ hB2]; simp [*])), (by first | exact sub_int rfl (by omega) | rfl | exact sub_eq rfl (by rw [fB_succ hA2]; simp [gV, gS, gN, gW, gK, *] <;> omega) | exact sub_eq rfl (by rw [fH_succ hB2]; simp [*])), trivial⟩, rfl⟩
            refine a_nil ?_
            refine bq_n ?_
            refine bq_n ?_
            refine tq_n ?_
            exact ⟨(), trivial, ⟨(by first | exact sub_int rfl (by omega) | rfl | exact sub_eq rfl (by rw [fB_succ hA2]; simp [gV, gS, gN, gW, gK, *] <;> omega) | exact sub_eq rfl (by rw [fH_succ hB2]; simp [*])), (by first | exact sub_int rfl (by omega) | rfl | exact sub_eq rfl (by rw [fB_succ hA2]; simp [gV, gS, gN, gW, gK, *] <;> omega) | exact sub_eq rfl (by rw [fH_succ hB2]; simp [*])), (by first | exact sub_int rfl (by omega) | rfl | exact sub_eq rfl (by rw [fB_succ hA2]; simp [gV, gS, gN, gW, gK, *] <;> omega) | exact sub_eq rfl (by rw [fH_succ hB2]; simp [*])), (by first | exact sub_int rfl (by omega) | rfl | exact sub_eq rfl (by rw [fB_succ hA2]; simp [gV, gS, gN, gW, gK, *] <;> omega) | exact sub_eq rfl (by rw [fH_succ hB2]; simp [*])), (by first | exact sub_int rfl (by omega) | rfl | exact sub_eq rfl (by rw [fB_succ hA2]; simp [gV, gS, gN, gW, gK, *] <;> omega) | exact sub_eq rfl (by rw [fH_succ hB2]; simp [*])), (by first | exact sub_int rfl (by omega) | rfl | exact sub_eq rfl (by rw [fB_succ hA2]; simp [gV, gS, gN, gW, gK, *] <;> omega) | exact sub_eq rfl (by rw [fH_succ hB2]; simp [*])), (by first | exact sub_int rfl (by omega) | rfl | exact sub_eq rfl (by rw [fB_succ hA2]; simp [gV, gS, gN, gW, gK, *] <;> omega) | exact sub_eq rfl (by rw [fH_succ hB2]; simp [*])), (by first | exact sub_int rfl (by omega) | rfl | exact sub_eq rfl (by rw [fB_succ hA2]; simp [gV, gS, gN, gW, gK, *] <;> omega) | exact sub_eq rfl (by rw [fH_succ hB2]; simp [*])), (by first | exact sub_int rfl (by omega) | rfl | exact sub_eq rfl (by rw [fB_succ hA2]; simp [gV, gS, gN, gW, gK, *] <;> omega) | exact sub_eq rfl (by rw [fH_succ hB2]; simp [*])), (by first | exact sub_int rfl (by omega) | rfl | exact sub_eq rfl (by rw [fB_succ hA2]; simp [gV, gS, gN, gW, gK, *] <;> omega) | exact sub_eq rfl (by rw [fH_succ hB2]; simp [*])), (by first | exact sub_int rfl (by omega) | rfl | exact sub_eq rfl (by rw [fB_succ hA2]; simp [gV, gS, gN, gW, gK, *] <;> omega) | exact sub_eq rfl (by rw [fH_succ hB2]; simp [*])), (by first | exact sub_int rfl (by omega) | rfl | exact sub_eq rfl (by rw [fB_succ hA2]; simp [gV, gS, gN, gW, gK, *] <;> omega) | exact sub_eq rfl (by rw [fH_succ hB2]; simp [*])), (by first | exact sub_int rfl (by omega) | rfl | exact sub_eq rfl (by rw [fB_succ hA2]; simp [gV, gS, gN, gW, gK, *] <;> omega) | exact sub_eq rfl (by rw [fH_succ hB2]; simp [*])), (by first | exact sub_int rfl (by omega) | rfl | exact sub_eq rfl (by rw [fB_succ hA2]; simp [gV, gS, gN, gW, gK, *] <;> omega) | exact sub_eq rfl (by rw [fH_succ hB2]; simp [*])), (by first | exact sub_int rfl (by omega) | rfl | exact sub_eq rfl (by rw [fB_succ hA2]; simp [gV, gS, gN, gW, gK, *] <;> omega) | exact sub_eq rfl (by rw [fH_succ hB2]; simp [*])), trivial⟩, rfl⟩
          refine a_op rfl (o_mv rfl) ?_
          refine a_off rfl ?_
          refine a_off rfl ?_
          refine a_off rfl ?_
          refine a_off rfl ?_
          refine a_off rfl ?_
          refine a_off rfl ?_
          refine a_off rfl ?_
          refine a_off rfl ?_
          refine a_off rfl ?_
          refine a_off rfl ?_
          refine a_op rfl (o_pkf rfl rfl) ?_
          refine a_op rfl (o_pkf rfl rfl) ?_
          refine a_op rfl (o_as rfl) ?_
          refine a_nil ?_
          refine bq_n ?_
          refine bq_n ?_
          refine tq_n ?_
          exact ⟨(), trivial, ⟨(by first | exact sub_int rfl (by omega) | rfl | exact sub_eq rfl (by rw [fB_succ hA2]; simp [gV, gS, gN, gW, gK, *] <;> omega) | exact sub_eq rfl (by rw [fH_succ hB2]; simp [*])), (by first | exact sub_int rfl (by omega) | rfl | exact sub_eq rfl (by rw [fB_succ hA2]; simp [gV, gS, gN, gW, gK, *] <;> omega) | exact sub_eq rfl (by rw [fH_succ hB2]; simp [*])), (by first | exact sub_int rfl (by omega) | rfl | exact sub_eq rfl (by rw [fB_succ hA2]; simp [gV, gS, gN, gW, gK, *] <;> omega) | exact sub_eq rfl (by rw [fH_succ hB2]; simp [*])), (by first | exact sub_int rfl (by omega) | rfl | exact sub_eq rfl (by rw [fB_succ hA2]; simp [gV, gS, gN, gW, gK, *] <;> omega) | exact sub_eq rfl (by rw [fH_succ hB2]; simp [*])), (by first | exact sub_int rfl (by omega) | rfl | exact sub_eq rfl (by rw [fB_succ hA2]; simp [gV, gS, gN, gW, gK, *] <;> omega) | exact sub_eq rfl (by rw [fH_succ hB2]; simp [*])), (by first | exact sub_int rfl (by omega) | rfl | exact sub_eq rfl (by rw [fB_succ hA2]; simp [gV, gS, gN, gW, gK, *] <;> omega) | exact sub_eq rfl (by rw [fH_succ hB2]; simp [*])), (by first | exact sub_int rfl (by omega) | rfl | exact sub_eq rfl (by rw [fB_succ hA2]; simp [gV, gS, gN, gW, gK, *] <;> omega) | exact sub_eq rfl (by rw [fH_succ hB2]; simp [*])), (by first | exact sub_int rfl (by omega) | rfl | exact sub_eq rfl (by rw [fB_succ hA2]; simp [gV, gS, gN, gW, gK, *] <;> omega) | exact sub_eq rfl (by rw [fH_succ hB2]; simp [*])), (by first | exact sub_int rfl (by omega) | rfl | exact sub_eq rfl (by rw [fB_succ hA2]; simp [gV, gS, gN, gW, gK, *] <;> omega) | exact sub_eq rfl (by rw [fH_succ hB2]; simp [*])), (by first | exact sub_int rfl (by omega) | rfl | exact sub_eq rfl (by rw [fB_succ hA2]; simp [gV, gS, gN, gW, gK, *] <;> omega) | exact sub_eq rfl (by rw [fH_succ hB2]; simp [*])), (by first | exact sub_int rfl (by omega) | rfl | exact sub_eq rfl (by rw [fB_succ hA2]; simp [gV, gS, gN, gW, gK, *] <;> omega) | exact sub_eq rfl (by rw [fH_succ hB2]; simp [*])), (by first | exact sub_int rfl (by omega) | rfl | exact sub_eq rfl (by rw [fB_succ hA2]; simp [gV, gS, gN, gW, gK, *] <;> omega) | exact sub_eq rfl (by rw [fH_succ hB2]; simp [*])), (by first | exact sub_int rfl (by omega) | rfl | exact sub_eq rfl (by rw [fB_succ hA2]; simp [gV, gS, gN, gW, gK, *] <;> omega) | exact sub_eq rfl (by rw [fH_succ hB2]; simp [*])), (by first | exact sub_int rfl (by omega) | rfl | exact sub_eq rfl (by rw [fB_succ hA2]; simp [gV, gS, gN, gW, gK, *] <;> omega) | exact sub_eq rfl (by rw [fH_succ hB2]; simp [*])), (by first | exact sub_int rfl (by omega) | rfl | exact sub_eq rfl (by rw [fB_succ hA2]; simp [gV, gS, gN, gW, gK, *] <;> omega) | exact sub_eq rfl (by rw [fH_succ hB2]; simp [*])), trivial⟩, rfl⟩
        refine a_op rfl (o_as rfl) ?_
        refine a_nil ?_
        refine tq_n ?_
        refine w_false rfl ?_
        refine awp_seq ?_
        refine w_reg (l := r9_23.toList) rfl r9_23_ok ?_
        refine a_if rfl (o_eq rfl rfl) (fun h41 => ?_) (fun h42 => ?_)
        · refine a_op rfl (o_as rfl) ?_
          refine a_nil ?_
          refine tq_n ?_
          refine w_true rfl ?_
          refine awp_seq ?_
          refine w_reg (l := r9_24.toList) rfl r9_24_ok ?_
          refine a_op rfl (o_as rfl) ?_
          refine a_nil ?_
          refine tq_n ?_
          refine w_reg (l := r9_25.toList) rfl r9_25_ok ?_
          refine a_ifb rfl (o_mv rfl) (fun h43 => ?_) (fun h44 => ?_)
          · refine a_op rfl (o_mv rfl) ?_
            refine a_off rfl ?_
            refine a_off rfl ?_
            refine a_off rfl ?_
            refine a_off rfl ?_
            refine a_off rfl ?_
            refine a_off rfl ?_
            refine a_off rfl ?_
            refine a_op rfl (o_pkt rfl rfl) ?_
            refine a_op rfl (o_as rfl) ?_
            refine a_nil ?_
            refine bq_n ?_
            refine bq_n ?_
            refine tq_n ?_
            exact ⟨(), trivial, ⟨(by first | exact sub_int rfl (by omega) | rfl | exact sub_eq rfl (by rw [fB_succ hA2]; simp [gV, gS, gN, gW, gK, *] <;> omega) | exact sub_eq rfl (by rw [fH_succ hB2]; simp [*])), (by first | exact sub_int rfl (by omega) | rfl | exact sub_eq rfl (by rw [fB_succ hA2]; simp [gV, gS, gN, gW, gK, *] <;> omega) | exact sub_eq rfl (by rw [fH_succ hB2]; simp [*])), (by first | exact sub_int rfl (by omega) | rfl | exact sub_eq rfl (by rw [fB_succ hA2]; simp [gV, gS, gN, gW, gK, *] <;> omega) | exact sub_eq rfl (by rw [fH_succ hB2]; simp [*])), (by first | exact sub_int rfl (by omega) | rfl | exact sub_eq rfl (by rw [fB_succ hA2]; simp [gV, gS, gN, gW, gK, *] <;> omega) | exact sub_eq rfl (by rw [fH_succ hB2]; simp [*])), (by first | exact sub_int rfl (by omega) | rfl | exact sub_eq rfl (by rw [fB_succ hA2]; simp [gV, gS, gN, gW, gK, *] <;> omega) | exact sub_eq rfl (by rw [fH_succ hB2]; simp [*])), (by first | exact sub_int rfl (by omega) | rfl | exact sub_eq rfl (by rw [fB_succ hA2]; simp [gV, gS, gN, gW, gK, *] <;> omega) | exact sub_eq rfl (by rw [fH_succ hB2]; simp [*])), (by first | exact sub_int rfl (by omega) | rfl | exact sub_eq rfl (by rw [fB_succ hA2]; simp [gV, gS, gN, gW, gK, *] <;> omega) | exact sub_eq rfl (by rw [fH_succ hB2]; simp [*])), (by first | exact sub_int rfl (by omega) | rfl | exact sub_eq rfl (by rw [fB_succ hA2]; simp [gV, gS, gN, gW, gK, *] <;> omega) | exact sub_eq rfl (by rw [fH_succ hB2]; simp [*])), (by first | exact sub_int rfl (by omega) | rfl | exact sub_eq rfl (by rw [fB_succ hA2]; simp [gV, gS, gN, gW, gK, *] <;> omega) | exact sub_eq rfl (by rw [fH_succ hB2]; simp [*])), (by first | exact sub_int rfl (by omega) | rfl | exact sub_eq rfl (by rw [fB_succ hA2]; simp [gV, gS, gN, gW, gK, *] <;> omega) | exact sub_eq rfl (by rw [fH_succ hB2]; simp [*])), (by first | exact sub_int rfl (by omega) | rfl | exact sub_eq rfl (by rw [fB_succ hA2]; simp [gV, gS, gN, gW, gK, *] <;> omega) | exact sub_eq rfl (by rw [fH_succ hB2]; simp [*])), (by first | exact sub_int rfl (by omega) | rfl | exact sub_eq rfl (by rw [fB_succ hA2]; simp [gV, gS, gN, gW, gK, *] <;> omega) | exact sub_eq rfl (by rw [fH_succ hB2]; simp [*])), (by first | exact sub_int rfl (by omega) | rfl | exact sub_eq rfl (by rw [fB_succ hA2]; simp [gV, gS, gN, gW, gK, *] <;> omega) | exact sub_eq rfl (by rw [fH_succ hB2]; simp [*])), (by first | exact sub_int rfl (by omega) | rfl | exact sub_eq rfl (by rw [fB_succ hA2]; simp [gV, gS, gN, gW, gK, *] <;> omega) | exact sub_eq rfl (by rw [fH_succ hB2]; simp [*])), (by first | exact sub_int rfl (by omega) | rfl | exact sub_eq rfl (by rw [fB_succ hA2]; simp [gV, gS, gN, gW, gK, *] <;> omega) | exact sub_eq rfl (by rw [fH_succ hB2]; simp [*])), trivial⟩, rfl⟩
          refine a_op rfl (o_mv rfl) ?_
          refine a_op rfl ((by first | exact o_fa tf37_4 rfl rfl | exact o_fap tf37_4 rfl rfl)) ?_
          refine a_op rfl ((by first | exact o_ld tg5 rfl rfl | exact o_ldp tg5 rfl rfl rfl rfl)) ?_
          refine a_op rfl (o_mv rfl) ?_
          refine a_op rfl (o_rem rfl rfl (by omega) (by omega)) ?_
          refine a_op rfl (o_shr rfl rfl (by omega)) ?_
          refine a_op rfl (o_and1 rfl rfl hsb.1 hsb.2) ?_
          refine a_op rfl (o_eq rfl rfl) ?_
          refine a_op rfl (o_pkf rfl rfl) ?_
          refine a_ifb rfl (o_as rfl) (fun h45 => ?_) (fun h46 => ?_)
          · refine a_nil ?_
            refine bq_n ?_
            refine bq_n ?_
            refine tq_n ?_
            exact ⟨(), trivial, ⟨(by first | exact sub_int rfl (by omega) | rfl | exact sub_eq rfl (by rw [fB_succ hA2]; simp [gV, gS, gN, gW, gK, *] <;> omega) | exact sub_eq rfl (by rw [fH_succ hB2]; simp [*])), (by first | exact sub_int rfl (by omega) | rfl | exact sub_eq rfl (by rw [fB_succ hA2]; simp [gV, gS, gN, gW, gK, *] <;> omega) | exact sub_eq rfl (by rw [fH_succ hB2]; simp [*])), (by first | exact sub_int rfl (by omega) | rfl | exact sub_eq rfl (by rw [fB_succ hA2]; simp [gV, gS, gN, gW, gK, *] <;> omega) | exact sub_eq rfl (by rw [fH_succ hB2]; simp [*])), (by first | exact sub_int rfl (by omega) | rfl | exact sub_eq rfl (by rw [fB_succ hA2]; simp [gV, gS, gN, gW, gK, *] <;> omega) | exact sub_eq rfl (by rw [fH_succ hB2]; simp [*])), (by first | exact sub_int rfl (by omega) | rfl | exact sub_eq rfl (by rw [fB_succ hA2]; simp [gV, gS, gN, gW, gK, *] <;> omega) | exact sub_eq rfl (by rw [fH_succ hB2]; simp [*])), (by first | exact sub_int rfl (by omega) | rfl | exact sub_eq rfl (by rw [fB_succ hA2]; simp [gV, gS, gN, gW, gK, *] <;> omega) | exact sub_eq rfl (by rw [fH_succ hB2]; simp [*])), (by first | exact sub_int rfl (by omega) | rfl | exact sub_eq rfl (by rw [fB_succ hA2]; simp [gV, gS, gN, gW, gK, *] <;> omega) | exact sub_eq rfl (by rw [fH_succ hB2]; simp [*])), (by first | exact sub_int rfl (by omega) | rfl | exact sub_eq rfl (by rw [fB_succ hA2]; simp [gV, gS, gN, gW, gK, *] <;> omega) | exact sub_eq rfl (by rw [fH_succ hB2]; simp [*])), (by first | exact sub_int rfl (by omega) | rfl | exact sub_eq rfl (by rw [fB_succ hA2]; simp [gV, gS, gN, gW, gK, *] <;> omega) | exact sub_eq rfl (by rw [fH_succ hB2]; simp [*])), (by first | exact sub_int rfl (by omega) | rfl | exact sub_eq rfl (by rw [fB_succ hA2]; simp [gV, gS, gN, gW, gK, *] <;> omega) | exact sub_eq rfl (by rw [fH_succ hB2]; simp [*])), (by first | exact sub_int rfl (by omega) | rfl | exact sub_eq rfl (by rw [fB_succ hA2]; simp [gV, gS, gN, gW, gK, *] <;> omega) | exact sub_eq rfl (by rw [fH_succ hB2]; simp [*])), (by first | exact sub_int rfl (by omega) | rfl | exact sub_eq rfl (by rw [fB_succ hA2]; simp [gV, gS, gN, gW, gK, *] <;> omega) | exact sub_eq rfl (by rw [fH_succ hB2]; simp [*])), (by first | exact sub_int rfl (by omega) | rfl | exact sub_eq rfl (by rw [fB_succ hA2]; simp [gV, gS, gN, gW, gK, *] <;> omega) | exact sub_eq rfl (by rw [fH_succ hB2]; simp [*])), (by first | exact sub_int rfl (by omega) | rfl | exact sub_eq rfl (by rw [fB_succ hA2]; simp [gV, gS, gN, gW, gK, *] <;> omega) | exact sub_eq rfl (by rw [fH_succ hB2]; simp [*])), (by first | exact sub_int rfl (by omega) | rfl | exact sub_eq rfl (by rw [fB_succ hA2]; simp [gV, gS, gN, gW, gK, *] <;> omega) | exact sub_eq rfl (by rw [fH_succ hB2]; simp [*])), trivial⟩, rfl⟩
          refine a_nil ?_
          refine bq_n ?_
          refine bq_n ?_
          refine tq_n ?_
          exact ⟨(), trivial, ⟨(by first | exact sub_int rfl (by omega) | rfl | exact sub_eq rfl (by rw [fB_succ hA2]; simp [gV, gS, gN, gW, gK, *] <;> omega) | exact sub_eq rfl (by rw [fH_succ hB2]; simp [*])), (by first | exact sub_int rfl (by omega) | rfl | exact sub_eq rfl (by rw [fB_succ hA2]; simp [gV, gS, gN, gW, gK, *] <;> omega) | exact sub_eq rfl (by rw [fH_succ hB2]; simp [*])), (by first | exact sub_int rfl (by omega) | rfl | exact sub_eq rfl (by rw [fB_succ hA2]; simp [gV, gS, gN, gW, gK, *] <;> omega) | exact sub_eq rfl (by rw [fH_succ hB2]; simp [*])), (by first | exact sub_int rfl (by omega) | rfl | exact sub_eq rfl (by rw [fB_succ hA2]; simp [gV, gS, gN, gW, gK, *] <;> omega) | exact sub_eq rfl (by rw [fH_succ hB2]; simp [*])), (by first | exact sub_int rfl (by omega) | rfl | exact sub_eq rfl (by rw [fB_succ hA2]; simp [gV, gS, gN, gW, gK, *] <;> omega) | exact sub_eq rfl (by rw [fH_succ hB2]; simp [*])), (by first | exact sub_int rfl (by omega) | rfl | exact sub_eq rfl (by rw [fB_succ hA2]; simp [gV, gS, gN, gW, gK, *] <;> omega) | exact sub_eq rfl (by rw [fH_succ hB2]; simp [*])), (by first | exact sub_int rfl (by omega) | rfl | exact sub_eq rfl (by rw [fB_succ hA2]; simp [gV, gS, gN, gW, gK, *] <;> omega) | exact sub_eq rfl (by rw [fH_succ hB2]; simp [*])), (by first | exact sub_int rfl (by omega) | rfl | exact sub_eq rfl (by rw [fB_succ hA2]; simp [gV, gS, gN, gW, gK, *] <;> omega) | exact sub_eq rfl (by rw [fH_succ hB2]; simp [*])), (by first | exact sub_int rfl (by omega) | rfl | exact sub_eq rfl (by rw [fB_succ hA2]; simp [gV, gS, gN, gW, gK, *] <;> omega) | exact sub_eq rfl (by rw [fH_succ hB2]; simp [*])), (by first | exact sub_int rfl (by omega) | rfl | exact sub_eq rfl (by rw [fB_succ hA2]; simp [gV, gS, gN, gW, gK, *] <;> omega) | exact sub_eq rfl (by rw [fH_succ hB2]; simp [*])), (by first | exact sub_int rfl (by omega) | rfl | exact sub_eq rfl (by rw [fB_succ hA2]; simp [gV, gS, gN, gW, gK, *] <;> omega) | exact sub_eq rfl (by rw [fH_succ hB2]; simp [*])), (by first | exact sub_int rfl (by omega) | rfl | exact sub_eq rfl (by rw [fB_succ hA2]; simp [gV, gS, gN, gW, gK, *] <;> omega) | exact sub_eq rfl (by rw [fH_succ hB2]; simp [*])), (by first | exact sub_int rfl (by omega) | rfl | exact sub_eq rfl (by rw [fB_succ hA2]; simp [gV, gS, gN, gW, gK, *] <;> omega) | exact sub_eq rfl (by rw [fH_succ hB2]; simp [*])), (by first | exact sub_int rfl (by omega) | rfl | exact sub_eq rfl (by rw [fB_succ hA2]; simp [gV, gS, gN, gW, gK, *] <;> omega) | exact sub_eq rfl (by rw [fH_succ hB2]; simp [*])), (by first | exact sub_int rfl (by omega) | rfl | exact sub_eq rfl (by rw [fB_succ hA2]; simp [gV, gS, gN, gW, gK, *] <;> omega) | exact sub_eq rfl (by rw [fH_succ hB2]; simp [*])), trivial⟩, rfl⟩
        refine a_op rfl (o_as rfl) ?_
        refine a_nil ?_
        refine tq_n ?_
        refine w_false rfl ?_
        refine awp_skip ?_
        refine bq_n ?_
        refine bq_n ?_
        refine tq_n ?_
        exact ⟨(), trivial, ⟨(by first | exact sub_int rfl (by omega) | rfl | exact sub_eq rfl (by rw [fB_succ hA2]; simp [gV, gS, gN, gW, gK, *] <;> omega) | exact sub_eq rfl (by rw [fH_succ hB2]; simp [*])), (by first | exact sub_int rfl (by omega) | rfl | exact sub_eq rfl (by rw [fB_succ hA2]; simp [gV, gS, gN, gW, gK, *] <;> omega) | exact sub_eq rfl (by rw [fH_succ hB2]; simp [*])), (by first | exact sub_int rfl (by omega) | rfl | exact sub_eq rfl (by rw [fB_succ hA2]; simp [gV, gS, gN, gW, gK, *] <;> omega) | exact sub_eq rfl (by rw [fH_succ hB2]; simp [*])), (by first | exact sub_int rfl (by omega) | rfl | exact sub_eq rfl (by rw [fB_succ hA2]; simp [gV, gS, gN, gW, gK, *] <;> omega) | exact sub_eq rfl (by rw [fH_succ hB2]; simp [*])), (by first | exact sub_int rfl (by omega) | rfl | exact sub_eq rfl (by rw [fB_succ hA2]; simp [gV, gS, gN, gW, gK, *] <;> omega) | exact sub_eq rfl (by rw [fH_succ hB2]; simp [*])), (by first | exact sub_int rfl (by omega) | rfl | exact sub_eq rfl (by rw [fB_succ hA2]; simp [gV, gS, gN, gW, gK, *] <;> omega) | exact sub_eq rfl (by rw [fH_succ hB2]; simp [*])), (by first | exact sub_int rfl (by omega) | rfl | exact sub_eq rfl (by rw [fB_succ hA2]; simp [gV, gS, gN, gW, gK, *] <;> omega) | exact sub_eq rfl (by rw [fH_succ hB2]; simp [*])), (by first | exact sub_int rfl (by omega) | rfl | exact sub_eq rfl (by rw [fB_succ hA2]; simp [gV, gS, gN, gW, gK, *] <;> omega) | exact sub_eq rfl (by rw [fH_succ hB2]; simp [*])), (by first | exact sub_int rfl (by omega) | rfl | exact sub_eq rfl (by rw [fB_succ hA2]; simp [gV, gS, gN, gW, gK, *] <;> omega) | exact sub_eq rfl (by rw [fH_succ hB2]; simp [*])), (by first | exact sub_int rfl (by omega) | rfl | exact sub_eq rfl (by rw [fB_succ hA2]; simp [gV, gS, gN, gW, gK, *] <;> omega) | exact sub_eq rfl (by rw [fH_succ hB2]; simp [*])), (by first | exact sub_int rfl (by omega) | rfl | exact sub_eq rfl (by rw [fB_succ hA2]; simp [gV, gS, gN, gW, gK, *] <;> omega) | exact sub_eq rfl (by rw [fH_succ hB2]; simp [*])), (by first | exact sub_int rfl (by omega) | rfl | exact sub_eq rfl (by rw [fB_succ hA2]; simp [gV, gS, gN, gW, gK, *] <;> omega) | exact sub_eq rfl (by rw [fH_succ hB2]; simp [*])), (by first | exact sub_int rfl (by omega) | rfl | exact sub_eq rfl (by rw [fB_succ hA2]; simp [gV, gS, gN, gW, gK, *] <;> omega) | exact sub_eq rfl (by rw [fH_succ hB2]; simp [*])), (by first | exact sub_int rfl (by omega) | rfl | exact sub_eq rfl (by rw [fB_succ hA2]; simp [gV, gS, gN, gW, gK, *] <;> omega) | exact sub_eq rfl (by rw [fH_succ hB2]; simp [*])), (by first | exact sub_int rfl (by omega) | rfl | exact sub_eq rfl (by rw [fB_succ hA2]; simp [gV, gS, gN, gW, gK, *] <;> omega) | exact sub_eq rfl (by rw [fH_succ hB2]; simp [*])), trivial⟩, rfl⟩
      intro _ _
      refine w_view [(7, .ptr 0 0), (8, .sl 5 false ((rulesF l).map ruleAV)), (9, .sl 1 false ((offF fl).map intAV)), (10, .raw (.int .i64 (day % 2001))), (17, .raw (.int .i64 (now (day % 2001)))), (18, .raw (.int .i64 p)), (19, .raw (.bool (fB (gV p (day % 2001)) (rulesF l) (kA + 1)))), (20, .raw (.bool (fB (gS p) (rulesF l) (kA + 1)))), (21, .raw (.bool (fB (gN p (now (day % 2001))) (rulesF l) (kA + 1)))), (22, .raw (.bool (fB (gW p) (rulesF l) (kA + 1)))), (23, .raw (.bool (fB (gK p ((day % 2001) % 7)) (rulesF l) (kA + 1)))), (24, .raw (.bool false)), (67, .sl 5 false ((rulesF l).map ruleAV)), (68, .raw (.int .i64 (((rulesF l).length : Nat) : Int))), (69, .raw (.int .i64 ((kA : Nat) : Int)))] ([.var [nilS, nilS, nilS, .sl 8 false ((sixL 6).map ptAV)]]) 1 rfl (Nat.le_of_ble_eq_true rfl) (Nat.le_of_ble_eq_true rfl) ⟨⟨_, rfl, (by first | exact .sloK (Nat.le_of_ble_eq_true rfl) | exact .ptrK (Nat.le_of_ble_eq_true rfl) | exact rs_pur (by simp) rfl)⟩, ⟨_, rfl, (by first | exact .sloK (Nat.le_of_ble_eq_true rfl) | exact .ptrK (Nat.le_of_ble_eq_true rfl) | exact rs_pur (by simp) rfl)⟩, ⟨_, rfl, (by first | exact .sloK (Nat.le_of_ble_eq_true rfl) | exact .ptrK (Nat.le_of_ble_eq_true rfl) | exact rs_pur (by simp) rfl)⟩, ⟨_, rfl, (by first | exact .sloK (Nat.le_of_ble_eq_true rfl) | exact .ptrK (Nat.le_of_ble_eq_true rfl) | exact rs_pur (by simp) rfl)⟩, ⟨_, rfl, (by first | exact .sloK (Nat.le_of_ble_eq_true rfl) | exact .ptrK (Nat.le_of_ble_eq_true rfl) | exact rs_pur (by simp) rfl)⟩, ⟨_, rfl, (by first | exact .sloK (Nat.le_of_ble_eq_true rfl) | exact .ptrK (Nat.le_of_ble_eq_true rfl) | exact rs_pur (by simp) rfl)⟩, ⟨_, rfl, (by first | exact .sloK (Nat.le_of_ble_eq_true rfl) | exact .ptrK (Nat.le_of_ble_eq_true rfl) | exact rs_pur (by simp) rfl)⟩, ⟨_, rfl, (by first | exact .sloK (Nat.le_of_ble_eq_true rfl) | exact .ptrK (Nat.le_of_ble_eq_true rfl) | exact rs_pur (by simp) rfl)⟩, ⟨_, rfl, (by first | exact .sloK (Nat.le_of_ble_eq_true rfl) | exact .ptrK (Nat.le_of_ble_eq_true rfl) | exact rs_pur (by simp) rfl)⟩, ⟨_, rfl, (by first | exact .sloK (Nat.le_of_ble_eq_true rfl) | exact .ptrK (Nat.le_of_ble_eq_true rfl) | exact rs_pur (by simp) rfl)⟩, ⟨_, rfl, (by first | exact .sloK (Nat.le_of_ble_eq_true rfl) | exact .ptrK (Nat.le_of_ble_eq_true rfl) | exact rs_pur (by simp) rfl)⟩, ⟨_, rfl, (by first | exact .sloK (Nat.le_of_ble_eq_true rfl) | exact .ptrK (Nat.le_of_ble_eq_true rfl) | exact rs_pur (by simp) rfl)⟩, ⟨_, rfl, (by first | exact .sloK (Nat.le_of_ble_eq_true rfl) | exact .ptrK (Nat.le_of_ble_eq_true rfl) | exact rs_pur (by simp) rfl)⟩, ⟨_, rfl, (by first | exact .sloK (Nat.le_of_ble_eq_true rfl) | exact .ptrK (Nat.le_of_ble_eq_true rfl) | exact rs_pur (by simp) rfl)⟩, ⟨_, rfl, (by first | exact .sloK (Nat.le_of_ble_eq_true rfl) | exact .ptrK (Nat.le_of_ble_eq_true rfl) | exact rs_pur (by simp) rfl)⟩, trivial⟩ ⟨ors_var ⟨rs_pur (by simp [nilS]) rfl, rs_pur (by simp [nilS]) rfl, rs_pur (by simp [nilS]) rfl, rs_pur (by simp) rfl, trivial⟩, trivial⟩ ?_
      refine w_reg (l := r9_26.toList) rfl r9_26_ok ?_
      refine a_op rfl (o_add rfl rfl (by simp only [klo, khi]; omega)) ?_
      refine a_op rfl (o_mv rfl) ?_
      refine a_nil ?_
      refine tq_n ?_
      exact ⟨kA + 1, ⟨by omega, by omega⟩, ⟨(by first | exact sub_int rfl (by omega) | rfl | exact sub_eq rfl (by rw [fB_succ hA2]; simp [gV, gS, gN, gW, gK, *] <;> omega) | exact sub_eq rfl (by rw [fH_succ hB2]; simp [*])), (by first | exact sub_int rfl (by omega) | rfl | exact sub_eq rfl (by rw [fB_succ hA2]; simp [gV, gS, gN, gW, gK, *] <;> omega) | exact sub_eq rfl (by rw [fH_succ hB2]; simp [*])), (by first | exact sub_int rfl (by omega) | rfl | exact sub_eq rfl (by rw [fB_succ hA2]; simp [gV, gS, gN, gW, gK, *] <;> omega) | exact sub_eq rfl (by rw [fH_succ hB2]; simp [*])), (by first | exact sub_int rfl (by omega) | rfl | exact sub_eq rfl (by rw [fB_succ hA2]; simp [gV, gS, gN, gW, gK, *] <;> omega) | exact sub_eq rfl (by rw [fH_succ hB2]; simp [*])), (by first | exact sub_int rfl (by omega) | rfl | exact sub_eq rfl (by rw [fB_succ hA2]; simp [gV, gS, gN, gW, gK, *] <;> omega) | exact sub_eq rfl (by rw [fH_succ hB2]; simp [*])), (by first | exact sub_int rfl (by omega) | rfl | exact sub_eq rfl (by rw [fB_succ hA2]; simp [gV, gS, gN, gW, gK, *] <;> omega) | exact sub_eq rfl (by rw [fH_succ hB2]; simp [*])), (by first | exact sub_int rfl (by omega) | rfl | exact sub_eq rfl (by rw [fB_succ hA2]; simp [gV, gS, gN, gW, gK, *] <;> omega) | exact sub_eq rfl (by rw [fH_succ hB2]; simp [*])), (by first | exact sub_int rfl (by omega) | rfl | exact sub_eq rfl (by rw [fB_succ hA2]; simp [gV, gS, gN, gW, gK, *] <;> omega) | exact sub_eq rfl (by rw [fH_succ hB2]; simp [*])), (by first | exact sub_int rfl (by omega) | rfl | exact sub_eq rfl (by rw [fB_succ hA2]; simp [gV, gS, gN, gW, gK, *] <;> omega) | exact sub_eq rfl (by rw [fH_succ hB2]; simp [*])), (by first | exact sub_int rfl (by omega) | rfl | exact sub_eq rfl (by rw [fB_succ hA2]; simp [gV, gS, gN, gW, gK, *] <;> omega) | exact sub_eq rfl (by rw [fH_succ hB2]; simp [*])), (by first | exact sub_int rfl (by omega) | rfl | exact sub_eq rfl (by rw [fB_succ hA2]; simp [gV, gS, gN, gW, gK, *] <;> omega) | exact sub_eq rfl (by rw [fH_succ hB2]; simp [*])), (by first | exact sub_int rfl (by omega) | rfl | exact sub_eq rfl (by rw [fB_succ hA2]; simp [gV, gS, gN, gW, gK, *] <;> omega) | exact sub_eq rfl (by rw [fH_succ hB2]; simp [*])), (by first | exact sub_int rfl (by omega) | rfl | exact sub_eq rfl (by rw [fB_succ hA2]; simp [gV, gS, gN, gW, gK, *] <;> omega) | exact sub_eq rfl (by rw [fH_succ hB2]; simp [*])), (by first | exact sub_int rfl (by omega) | rfl | exact sub_eq rfl (by rw [fB_succ hA2]; simp [gV, gS, gN, gW, gK, *] <;> omega) | exact sub_eq rfl (by rw [fH_succ hB2]; simp [*])), (by first | exact sub_int rfl (by omega) | rfl | exact sub_eq rfl (by rw [fB_succ hA2]; simp [gV, gS, gN, gW, gK, *] <;> omega) | exact sub_eq rfl (by rw [fH_succ hB2]; simp [*])), trivial⟩, rfl⟩
    refine a_nil ?_
    refine tq_n ?_
    refine awp_seq ?_
    refine w_false rfl ?_
    refine awp_exit ?_
    refine tq_x ?_
    refine tq_x ?_
    refine bq_hit ?_
    refine tq_n ?_
    refine awp_seq ?_
    refine awp_seq ?_
    have hkA : kA = (rulesF l).length := by omega
    subst hkA
    refine w_reg (l := r9_27.toList) rfl r9_27_ok ?_
    refine a_op rfl (o_mv rfl) ?_
    refine a_op rfl (o_len rfl rfl (by first | exact List.length_map .. | rfl) tl34) ?_
    refine a_op rfl (o_mv rfl) ?_
    refine a_nil ?_
    refine tq_n ?_
    refine awp_block ?_
    refine w_loop (fun k : Nat => k ≤ (offF fl).length) (fun k => [(7, .ptr 0 0), (8, .sl 5 false ((rulesF l).map ruleAV)), (9, .sl 1 false ((offF fl).map intAV)), (10, .raw (.int .i64 (day % 2001))), (17, .raw (.int .i64 (now (day % 2001)))), (18, .raw (.int .i64 p)), (19, .raw (.bool (fB (gV p (day % 2001)) (rulesF l) ((rulesF l).length)))), (20, .raw (.bool (fB (gS p) (rulesF l) ((rulesF l).length)))), (21, .raw (.bool (fB (gN p (now (day % 2001))) (rulesF l) ((rulesF l).length)))), (22, .raw (.bool (fB (gW p) (rulesF l) ((rulesF l).length)))), (23, .raw (.bool (fB (gK p ((day % 2001) % 7)) (rulesF l) ((rulesF l).length)))), (24, .raw (.bool (fH (day % 2001) (offF fl) (k)))), (141, .sl 1 false ((offF fl).map intAV)), (142, .raw (.int .i64 (((offF fl).length : Nat) : Int))), (143, .raw (.int .i64 ((k : Nat) : Int)))]) (fun _ => [.var [nilS, nilS, nilS, .sl 8 false ((sixL 6).map ptAV)]]) (fun k => (offF fl).length - k) (0) (by omega) ⟨(by first | exact sub_int rfl (by omega) | rfl | exact sub_eq rfl (by rw [fB_succ hA2]; simp [gV, gS, gN, gW, gK, *] <;> omega) | exact sub_eq rfl (by rw [fH_succ hB2]; simp [*])), (by first | exact sub_int rfl (by omega) | rfl | exact sub_eq rfl (by rw [fB_succ hA2]; simp [gV, gS, gN, gW, gK, *] <;> omega) | exact sub_eq rfl (by rw [fH_succ hB2]; simp [*])), (by first | exact sub_int rfl (by omega) | rfl | exact sub_eq rfl (by rw [fB_succ hA2]; simp [gV, gS, gN, gW, gK, *] <;> omega) | exact sub_eq rfl (by rw [fH_succ hB2]; simp [*])), (by first | exact sub_int rfl (by omega) | rfl | exact sub_eq rfl (by rw [fB_succ hA2]; simp [gV, gS, gN, gW, gK, *] <;> omega) | exact sub_eq rfl (by rw [fH_succ hB2]; simp [*])), (by first | exact sub_int rfl (by omega) | rfl | exact sub_eq rfl (by rw [fB_succ hA2]; simp [gV, gS, gN, gW, gK, *] <;> omega) | exact sub_eq rfl (by rw [fH_succ hB2]; simp [*])), (by first | exact sub_int rfl (by omega) | rfl | exact sub_eq rfl (by rw [fB_succ hA2]; simp [gV, gS, gN, gW, gK, *] <;> omega) | exact sub_eq rfl (by rw [fH_succ hB2]; simp [*])), (by first | exact sub_int rfl (by omega) | rfl | exact sub_eq rfl (by rw [fB_succ hA2]; simp [gV, gS, gN, gW, gK, *] <;> omega) | exact sub_eq rfl (by rw [fH_succ hB2]; simp [*])), (by first | exact sub_int rfl (by omega) | rfl | exact sub_eq rfl (by rw [fB_succ hA2]; simp [gV, gS, gN, gW, gK, *] <;> omega) | exact sub_eq rfl (by rw [fH_succ hB2]; simp [*])), (by first | exact sub_int rfl (by omega) | rfl | exact sub_eq rfl (by rw [fB_succ hA2]; simp [gV, gS, gN, gW, gK, *] <;> omega) | exact sub_eq rfl (by rw [fH_succ hB2]; simp [*])), (by first | exact sub_int rfl (by omega) | rfl | exact sub_eq rfl (by rw [fB_succ hA2]; simp [gV, gS, gN, gW, gK, *] <;> omega) | exact sub_eq rfl (by rw [fH_succ hB2]; simp [*])), (by first | exact sub_int rfl (by omega) | rfl | exact sub_eq rfl (by rw [fB_succ hA2]; simp [gV, gS, gN, gW, gK, *] <;> omega) | exact sub_eq rfl (by rw [fH_succ hB2]; simp [*])), (by first | exact sub_int rfl (by omega) | rfl | exact sub_eq rfl (by rw [fB_succ hA2]; simp [gV, gS, gN, gW, gK, *] <;> omega) | exact sub_eq rfl (by rw [fH_succ hB2]; simp [*])), (by first | exact sub_int rfl (by omega) | rfl | exact sub_eq rfl (by rw [fB_succ hA2]; simp [gV, gS, gN, gW, gK, *] <;> omega) | exact sub_eq rfl (by rw [fH_succ hB2]; simp [*])), (by first | exact sub_int rfl (by omega) | rfl | exact sub_eq rfl (by rw [fB_succ hA2]; simp [gV, gS, gN, gW, gK, *] <;> omega) | exact sub_eq rfl (by rw [fH_succ hB2]; simp [*])), (by first | exact sub_int rfl (by omega) | rfl | exact sub_eq rfl (by rw [fB_succ hA2]; simp [gV, gS, gN, gW, gK, *] <;> omega) | exact sub_eq rfl (by rw [fH_succ hB2]; simp [*])), trivial⟩ rfl ?_
    intro kB hB
    unfold b9_1
    refine awp_seq ?_
    refine w_reg (l := r9_28.toList) rfl r9_28_ok ?_
    refine a_if rfl (o_lt rfl rfl) (fun h47 => ?_) (fun h48 => ?_)
    · refine a_nil ?_
      refine tq_n ?_
      refine awp_seq ?_
      refine w_true rfl ?_
      refine awp_skip ?_
      refine tq_n ?_
      refine awp_seq ?_
      refine awp_block ?_
      refine awp_seq ?_
      have hB2 : kB < (offF fl).length := by omega
      refine w_reg (l := r9_29.toList) rfl r9_29_ok ?_
      refine a_op rfl (o_ix te34 tn3 rfl rfl rfl (ixm _ _ _ hB2)) ?_
      refine a_op rfl ((by first | exact o_ld tg3 rfl rfl | exact o_ldp tg3 rfl rfl rfl rfl)) ?_
      refine a_op rfl (o_as rfl) ?_
      refine a_nil ?_
      refine tq_n ?_
      refine w_reg (l := r9_30.toList) rfl r9_30_ok ?_
      refine a_ifb rfl (o_mv rfl) (fun h49 => ?_) (fun h50 => ?_)
      · refine a_op rfl (o_mv rfl) ?_
        refine a_off rfl ?_
        refine a_off rfl ?_
        refine a_off rfl ?_
        refine a_op rfl (o_pkt rfl rfl) ?_
        refine a_op rfl (o_as rfl) ?_
        refine a_nil ?_
        refine bq_n ?_
        refine tq_n ?_
        refine w_reg (l := r9_31.toList) rfl r9_31_ok ?_
        refine a_op rfl (o_add rfl rfl (by simp only [klo, khi]; omega)) ?_
        refine a_op rfl (o_mv rfl) ?_
        refine a_nil ?_
        refine tq_n ?_
        exact ⟨kB + 1, ⟨by omega, by omega⟩, ⟨(by first | exact sub_int rfl (by omega) | rfl | exact sub_eq rfl (by rw [fB_succ hA2]; simp [gV, gS, gN, gW, gK, *] <;> omega) | exact sub_eq rfl (by rw [fH_succ hB2]; simp [*])), (by first | exact sub_int rfl (by omega) | rfl | exact sub_eq rfl (by rw [fB_succ hA2]; simp [gV, gS, gN, gW, gK, *] <;> omega) | exact sub_eq rfl (by rw [fH_succ hB2]; simp [*])), (by first | exact sub_int rfl (by omega) | rfl | exact sub_eq rfl (by rw [fB_succ hA2]; simp [gV, gS, gN, gW, gK, *] <;> omega) | exact sub_eq rfl (by rw [fH_succ hB2]; simp [*])), (by first | exact sub_int rfl (by omega) | rfl | exact sub_eq rfl (by rw [fB_succ hA2]; simp [gV, gS, gN, gW, gK, *] <;> omega) | exact sub_eq rfl (by rw [fH_succ hB2]; simp [*])), (by first | exact sub_int rfl (by omega) | rfl | exact sub_eq rfl (by rw [fB_succ hA2]; simp [gV, gS, gN, gW, gK, *] <;> omega) | exact sub_eq rfl (by rw [fH_succ hB2]; simp [*])), (by first | exact sub_int rfl (by omega) | rfl | exact sub_eq rfl (by rw [fB_succ hA2]; simp [gV, gS, gN, gW, gK, *] <;> omega) | exact sub_eq rfl (by rw [fH_succ hB2]; simp [*])), (by first | exact sub_int rfl (by omega) | rfl | exact sub_eq rfl (by rw [fB_succ hA2]; simp [gV, gS, gN, gW, gK, *] <;> omega) | exact sub_eq rfl (by rw [fH_succ hB2]; simp [*])), (by first | exact sub_int rfl (by omega) | rfl | exact sub_eq rfl (by rw [fB_succ hA2]; simp [gV, gS, gN, gW, gK, *] <;> omega) | exact sub_eq rfl (by rw [fH_succ hB2]; simp [*])), (by first | exact sub_int rfl (by omega) | rfl | exact sub_eq rfl (by rw [fB_succ hA2]; simp [gV, gS, gN, gW, gK, *] <;> omega) | exact sub_eq rfl (by rw [fH_succ hB2]; simp [*])), (by first | exact sub_int rfl (by omega) | rfl | exact sub_eq rfl (by rw [fB_succ hA2]; simp [gV, gS, gN, gW, gK, *] <;> omega) | exact sub_eq rfl (by rw [fH_succ hB2]; simp [*])), (by first | exact sub_int rfl (by omega) | rfl | exact sub_eq rfl (by rw [fB_succ hA2]; simp [gV, gS, gN, gW, gK, *] <;> omega) | exact sub_eq rfl (by rw [fH_succ hB2]; simp [*])), (by first | exact sub_int rfl (by omega) | rfl | exact sub_eq rfl (by rw [fB_succ hA2]; simp [gV, gS, gN, gW, gK, *] <;> omega) | exact sub_eq rfl (by rw [fH_succ hB2]; simp [*])), (by first | exact sub_int rfl (by omega) | rfl | exact sub_eq rfl (by rw [fB_succ hA2]; simp [gV, gS, gN, gW, gK, *] <;> omega) | exact sub_eq rfl (by rw [fH_succ hB2]; simp [*])), (by first | exact sub_int rfl (by omega) | rfl | exact sub_eq rfl (by rw [fB_succ hA2]; simp [gV, gS, gN, gW, gK, *] <;> omega) | exact sub_eq rfl (by rw [fH_succ hB2]; simp [*])), (by first | exact sub_int rfl (by omega) | rfl | exact sub_eq rfl (by rw [fB_succ hA2]; simp [gV, gS, gN, gW, gK, *] <;> omega) | exact sub_eq rfl (by rw [fH_succ hB2]; simp [*])), trivial⟩, rfl⟩
      refine a_op rfl (o_mv rfl) ?_
      refine a_op rfl (o_mv rfl) ?_
      refine a_op rfl (o_mv rfl) ?_
      refine a_op rfl (o_eq rfl rfl) ?_
      refine a_op rfl (o_pkf rfl rfl) ?_
      refine a_ifb rfl (o_as rfl) (fun h51 => ?_) (fun h52 => ?_)
      · refine a_nil ?_
        refine bq_n ?_
        refine tq_n ?_
        refine w_reg (l := r9_31.toList) rfl r9_31_ok ?_
        refine a_op rfl (o_add rfl rfl (by simp only [klo, khi]; omega)) ?_
        refine a_op rfl (o_mv rfl) ?_
        refine a_nil ?_
        refine tq_n ?_
        exact ⟨kB + 1, ⟨by omega, by omega⟩, ⟨(by first | exact sub_int rfl (by omega) | rfl | exact sub_eq rfl (by rw [fB_succ hA2]; simp [gV, gS, gN, gW, gK, *] <;> omega) | exact sub_eq rfl (by rw [fH_succ hB2]; simp [*])), (by first | exact sub_int rfl (by omega) | rfl | exact sub_eq rfl (by rw [fB_succ hA2]; simp [gV, gS, gN, gW, gK, *] <;> omega) | exact sub_eq rfl (by rw [fH_succ hB2]; simp [*])), (by first | exact sub_int rfl (by omega) | rfl | exact sub_eq rfl (by rw [fB_succ hA2]; simp [gV, gS, gN, gW, gK, *] <;> omega) | exact sub_eq rfl (by rw [fH_succ hB2]; simp [*])), (by first | exact sub_int rfl (by omega) | rfl | exact sub_eq rfl (by rw [fB_succ hA2]; simp [gV, gS, gN, gW, gK, *] <;> omega) | exact sub_eq rfl (by rw [fH_succ hB2]; simp [*])), (by first | exact sub_int rfl (by omega) | rfl | exact sub_eq rfl (by rw [fB_succ hA2]; simp [gV, gS, gN, gW, gK, *] <;> omega) | exact sub_eq rfl (by rw [fH_succ hB2]; simp [*])), (by first | exact sub_int rfl (by omega) | rfl | exact sub_eq rfl (by rw [fB_succ hA2]; simp [gV, gS, gN, gW, gK, *] <;> omega) | exact sub_eq rfl (by rw [fH_succ hB2]; simp [*])), (by first | exact sub_int rfl (by omega) | rfl | exact sub_eq rfl (by rw [fB_succ hA2]; simp [gV, gS, gN, gW, gK, *] <;> omega) | exact sub_eq rfl (by rw [fH_succ hB2]; simp [*])), (by first | exact sub_int rfl (by omega) | rfl | exact sub_eq rfl (by rw [fB_succ hA2]; simp [gV, gS, gN, gW, gK, *] <;> omega) | exact sub_eq rfl (by rw [fH_succ hB2]; simp [*])), (by first | exact sub_int rfl (by omega) | rfl | exact sub_eq rfl (by rw [fB_succ hA2]; simp [gV, gS, gN, gW, gK, *] <;> omega) | exact sub_eq rfl (by rw [fH_succ hB2]; simp [*])), (by first | exact sub_int rfl (by omega) | rfl | exact sub_eq rfl (by rw [fB_succ hA2]; simp [gV, gS, gN, gW, gK, *] <;> omega) | exact sub_eq rfl (by rw [fH_succ hB2]; simp [*])), (by first | exact sub_int rfl (by omega) | rfl | exact sub_eq rfl (by rw [fB_succ hA2]; simp [gV, gS, gN, gW, gK, *] <;> omega) | exact sub_eq rfl (by rw [fH_succ hB2]; simp [*])), (by first | exact sub_int rfl (by omega) | rfl | exact sub_eq rfl (by rw [fB_succ hA2]; simp [gV, gS, gN, gW, gK, *] <;> omega) | exact sub_eq rfl (by rw [fH_succ hB2]; simp [*])), (by first | exact sub_int rfl (by omega) | rfl | exact sub_eq rfl (by rw [fB_succ hA2]; simp [gV, gS, gN, gW, gK, *] <;> omega) | exact sub_eq rfl (by rw [fH_succ hB2]; simp [*])), (by first | exact sub_int rfl (by omega) | rfl | exact sub_eq rfl (by rw [fB_succ hA2]; simp [gV, gS, gN, gW, gK, *] <;> omega) | exact sub_eq rfl (by rw [fH_succ hB2]; simp [*])), (by first | exact sub_int rfl (by omega) | rfl | exact sub_eq rfl (by rw [fB_succ hA2]; simp [gV, gS, gN, gW, gK, *] <;> omega) | exact sub_eq rfl (by rw [fH_succ hB2]; simp [*])), trivial⟩, rfl⟩
      refine a_nil ?_
      refine bq_n ?_
      refine tq_n ?_
      refine w_reg (l := r9_31.toList) rfl r9_31_ok ?_
      refine a_op rfl (o_add rfl rfl (by simp only [klo, khi]; omega)) ?_
      refine a_op rfl (o_mv rfl) ?_
      refine a_nil ?_
      refine tq_n ?_
      exact ⟨kB + 1, ⟨by omega, by omega⟩, ⟨(by first | exact sub_int rfl (by omega) | rfl | exact sub_eq rfl (by rw [fB_succ hA2]; simp [gV, gS, gN, gW, gK, *] <;> omega) | exact sub_eq rfl (by rw [fH_succ hB2]; simp [*])), (by first | exact sub_int rfl (by omega) | rfl | exact sub_eq rfl (by rw [fB_succ hA2]; simp [gV, gS, gN, gW, gK, *] <;> omega) | exact sub_eq rfl (by rw [fH_succ hB2]; simp [*])), (by first | exact sub_int rfl (by omega) | rfl | exact sub_eq rfl (by rw [fB_succ hA2]; simp [gV, gS, gN, gW, gK, *] <;> omega) | exact sub_eq rfl (by rw [fH_succ hB2]; simp [*])), (by first | exact sub_int rfl (by omega) | rfl | exact sub_eq rfl (by rw [fB_succ hA2]; simp [gV, gS, gN, gW, gK, *] <;> omega) | exact sub_eq rfl (by rw [fH_succ hB2]; simp [*])), (by first | exact sub_int rfl (by omega) | rfl | exact sub_eq rfl (by rw [fB_succ hA2]; simp [gV, gS, gN, gW, gK, *] <;> omega) | exact sub_eq rfl (by rw [fH_succ hB2]; simp [*])), (by first | exact sub_int rfl (by omega) | rfl | exact sub_eq rfl (by rw [fB_succ hA2]; simp [gV, gS, gN, gW, gK, *] <;> omega) | exact sub_eq rfl (by rw [fH_succ hB2]; simp [*])), (by first | exact sub_int rfl (by omega) | rfl | exact sub_eq rfl (by rw [fB_succ hA2]; simp [gV, gS, gN, gW, gK, *] <;> omega) | exact sub_eq rfl (by rw [fH_succ hB2]; simp [*])), (by first | exact sub_int rfl (by omega) | rfl | exact sub_eq rfl (by rw [fB_succ hA2]; simp [gV, gS, gN, gW, gK, *] <;> omega) | exact sub_eq rfl (by rw [fH_succ hB2]; simp [*])), (by first | exact sub_int rfl (by omega) | rfl | exact sub_eq rfl (by rw [fB_succ hA2]; simp [gV, gS, gN, gW, gK, *] <;> omega) | exact sub_eq rfl (by rw [fH_succ hB2]; simp [*])), (by first | exact sub_int rfl (by omega) | rfl | exact sub_eq rfl (by rw [fB_succ hA2]; simp [gV, gS, gN, gW, gK, *] <;> omega) | exact sub_eq rfl (by rw [fH_succ hB2]; simp [*])), (by first | exact sub_int rfl (by omega) | rfl | exact sub_eq rfl (by rw [fB_succ hA2]; simp [gV, gS, gN, gW, gK, *] <;> omega) | exact sub_eq rfl (by rw [fH_succ hB2]; simp [*])), (by first | exact sub_int rfl (by omega) | rfl | exact sub_eq rfl (by rw [fB_succ hA2]; simp [gV, gS, gN, gW, gK, *] <;> omega) | exact sub_eq rfl (by rw [fH_succ hB2]; simp [*])), (by first | exact sub_int rfl (by omega) | rfl | exact sub_eq rfl (by rw [fB_succ hA2]; simp [gV, gS, gN, gW, gK, *] <;> omega) | exact sub_eq rfl (by rw [fH_succ hB2]; simp [*])), (by first | exact sub_int rfl (by omega) | rfl | exact sub_eq rfl (by rw [fB_succ hA2]; simp [gV, gS, gN, gW, gK, *] <;> omega) | exact sub_eq rfl (by rw [fH_succ hB2]; simp [*])), (by first | exact sub_int rfl (by omega) | rfl | exact sub_eq rfl (by rw [fB_succ hA2]; simp [gV, gS, gN, gW, gK, *] <;> omega) | exact sub_eq rfl (by rw [fH_succ hB2]; simp [*])), trivial⟩, rfl⟩
    refine a_nil ?_
    refine tq_n ?_
    refine awp_seq ?_
    refine w_false rfl ?_
    refine awp_exit ?_
    refine tq_x ?_
    refine tq_x ?_
    refine bq_hit ?_
    refine tq_n ?_
    refine awp_seq ?_
    have hlaw := rules_law hx fl (day % 2001) p (by omega) (by omega) (rulesF l).length kB (Nat.le_refl _) (by omega)
    refine w_reg (l := r9_32.toList) rfl r9_32_ok ?_
    refine a_op rfl (o_as rfl) ?_
    refine a_nil ?_
    refine tq_n ?_
    refine awp_seq ?_
    refine awp_block ?_
    refine awp_seq ?_
    refine w_reg (l := r9_33.toList) rfl r9_33_ok ?_
    refine a_op rfl (o_mv rfl) ?_
    refine a_if rfl (o_lt rfl rfl) (fun h53 => ?_) (fun h54 => ?_)
    · refine a_op rfl (o_mv rfl) ?_
      refine a_off rfl ?_
      refine a_off rfl ?_
      refine a_op rfl (o_pkt rfl rfl) ?_
      refine a_op rfl (o_as rfl) ?_
      refine a_nil ?_
      refine tq_n ?_
      refine w_true rfl ?_
      refine w_reg (l := r9_34.toList) rfl r9_34_ok ?_
      refine a_op rfl (o_as rfl) ?_
      refine a_nil ?_
      refine bq_n ?_
      refine tq_n ?_
      refine awp_seq ?_
      refine w_reg (l := r9_39.toList) rfl r9_39_ok ?_
      refine a_op rfl ((by first | exact o_ldg tg30 tn30 rfl rfl | exact o_ldpg tg30 tn30 rfl rfl rfl rfl)) ?_
      refine a_op rfl (o_mv rfl) ?_
      refine a_op rfl (o_mv rfl) ?_
      refine a_op rfl (o_mv rfl) ?_
      refine a_op rfl (o_mv rfl) ?_
      refine a_pure rfl rfl rfl cb14 (lstat_ok _ _ _ cel_nilS cel_nilS cel_nilS _ _ (by omega) _ _ (by omega) (hRx) _ _ (by omega) _ _) ?_
      refine a_op rfl (o_mv rfl) ?_
      refine a_if rfl (o_ne rfl rfl) (fun h55 => ?_) (fun h56 => ?_)
      · rw [hlaw] at h55; simp [wantF, *] at h55
      refine a_nil ?_
      refine tq_n ?_
      refine w_false rfl ?_
      refine awp_skip ?_
      refine bq_n ?_
      refine tq_n ?_
      refine w_reg (l := r9_11.toList) rfl r9_11_ok ?_
      refine a_op rfl (o_mv rfl) ?_
      refine a_op rfl (o_add rfl rfl (by simp only [klo, khi]; omega)) ?_
      refine a_op rfl (o_as rfl) ?_
      refine a_nil ?_
      refine tq_n ?_
      exact ⟨p + 1, ⟨⟨by omega, by omega⟩, by omega⟩, ⟨(by first | exact sub_int rfl (by omega) | rfl | exact sub_eq rfl (by rw [fB_succ hA2]; simp [gV, gS, gN, gW, gK, *] <;> omega) | exact sub_eq rfl (by rw [fH_succ hB2]; simp [*])), (by first | exact sub_int rfl (by omega) | rfl | exact sub_eq rfl (by rw [fB_succ hA2]; simp [gV, gS, gN, gW, gK, *] <;> omega) | exact sub_eq rfl (by rw [fH_succ hB2]; simp [*])), (by first | exact sub_int rfl (by omega) | rfl | exact sub_eq rfl (by rw [fB_succ hA2]; simp [gV, gS, gN, gW, gK, *] <;> omega) | exact sub_eq rfl (by rw [fH_succ hB2]; simp [*])), (by first | exact sub_int rfl (by omega) | rfl | exact sub_eq rfl (by rw [fB_succ hA2]; simp [gV, gS, gN, gW, gK, *] <;> omega) | exact sub_eq rfl (by rw [fH_succ hB2]; simp [*])), (by first | exact sub_int rfl (by omega) | rfl | exact sub_eq rfl (by rw [fB_succ hA2]; simp [gV, gS, gN, gW, gK, *] <;> omega) | exact sub_eq rfl (by rw [fH_succ hB2]; simp [*])), (by first | exact sub_int rfl (by omega) | rfl | exact sub_eq rfl (by rw [fB_succ hA2]; simp [gV, gS, gN, gW, gK, *] <;> omega) | exact sub_eq rfl (by rw [fH_succ hB2]; simp [*])), trivial⟩, rfl⟩
    refine a_op rfl (o_mv rfl) ?_
    refine a_op rfl (o_mv rfl) ?_
    refine a_if rfl (o_gt rfl rfl) (fun h57 => ?_) (fun h58 => ?_)
    · refine a_op rfl (o_pkf rfl rfl) ?_
      refine a_op rfl (o_as rfl) ?_
      refine a_nil ?_
      refine tq_n ?_
      refine w_true rfl ?_
      refine w_reg (l := r9_34.toList) rfl r9_34_ok ?_
      refine a_op rfl (o_as rfl) ?_
      refine a_nil ?_
      refine bq_n ?_
      refine tq_n ?_
      refine awp_seq ?_
      refine w_reg (l := r9_39.toList) rfl r9_39_ok ?_
      refine a_op rfl ((by first | exact o_ldg tg30 tn30 rfl rfl | exact o_ldpg tg30 tn30 rfl rfl rfl rfl)) ?_
      refine a_op rfl (o_mv rfl) ?_
      refine a_op rfl (o_mv rfl) ?_
      refine a_op rfl (o_mv rfl) ?_
      refine a_op rfl (o_mv rfl) ?_
      refine a_pure rfl rfl rfl cb14 (lstat_ok _ _ _ cel_nilS cel_nilS cel_nilS _ _ (by omega) _ _ (by omega) (hRx) _ _ (by omega) _ _) ?_
      refine a_op rfl (o_mv rfl) ?_
      refine a_if rfl (o_ne rfl rfl) (fun h59 => ?_) (fun h60 => ?_)
      · rw [hlaw] at h59; simp [wantF, *] at h59
      refine a_nil ?_
      refine tq_n ?_
      refine w_false rfl ?_
      refine awp_skip ?_
      refine bq_n ?_
      refine tq_n ?_
      refine w_reg (l := r9_11.toList) rfl r9_11_ok ?_
      refine a_op rfl (o_mv rfl) ?_
      refine a_op rfl (o_add rfl rfl (by simp only [klo, khi]; omega)) ?_
      refine a_op rfl (o_as rfl) ?_
      refine a_nil ?_
      refine tq_n ?_
      exact ⟨p + 1, ⟨⟨by omega, by omega⟩, by omega⟩, ⟨(by first | exact sub_int rfl (by omega) | rfl | exact sub_eq rfl (by rw [fB_succ hA2]; simp [gV, gS, gN, gW, gK, *] <;> omega) | exact sub_eq rfl (by rw [fH_succ hB2]; simp [*])), (by first | exact sub_int rfl (by omega) | rfl | exact sub_eq rfl (by rw [fB_succ hA2]; simp [gV, gS, gN, gW, gK, *] <;> omega) | exact sub_eq rfl (by rw [fH_succ hB2]; simp [*])), (by first | exact sub_int rfl (by omega) | rfl | exact sub_eq rfl (by rw [fB_succ hA2]; simp [gV, gS, gN, gW, gK, *] <;> omega) | exact sub_eq rfl (by rw [fH_succ hB2]; simp [*])), (by first | exact sub_int rfl (by omega) | rfl | exact sub_eq rfl (by rw [fB_succ hA2]; simp [gV, gS, gN, gW, gK, *] <;> omega) | exact sub_eq rfl (by rw [fH_succ hB2]; simp [*])), (by first | exact sub_int rfl (by omega) | rfl | exact sub_eq rfl (by rw [fB_succ hA2]; simp [gV, gS, gN, gW, gK, *] <;> omega) | exact sub_eq rfl (by rw [fH_succ hB2]; simp [*])), (by first | exact sub_int rfl (by omega) | rfl | exact sub_eq rfl (by rw [fB_succ hA2]; simp [gV, gS, gN, gW, gK, *] <;> omega) | exact sub_eq rfl (by rw [fH_succ hB2]; simp [*])), trivial⟩, rfl⟩
    refine a_op rfl (o_pkf rfl rfl) ?_
    refine a_op rfl (o_as rfl) ?_
    refine a_nil ?_
    refine tq_n ?_
    refine w_false rfl ?_
    refine awp_seq ?_
    refine w_reg (l := r9_35.toList) rfl r9_35_ok ?_
    refine a_ifb rfl (o_mv rfl) (fun h61 => ?_) (fun h62 => ?_)
    · refine a_op rfl (o_as rfl) ?_
      refine a_nil ?_
      refine tq_n ?_
      refine w_true rfl ?_
      refine w_reg (l := r9_36.toList) rfl r9_36_ok ?_
      refine a_op rfl (o_as rfl) ?_
      refine a_nil ?_
      refine bq_n ?_
      refine tq_n ?_
      refine awp_seq ?_
      refine w_reg (l := r9_39.toList) rfl r9_39_ok ?_
      refine a_op rfl ((by first | exact o_ldg tg30 tn30 rfl rfl | exact o_ldpg tg30 tn30 rfl rfl rfl rfl)) ?_
      refine a_op rfl (o_mv rfl) ?_
      refine a_op rfl (o_mv rfl) ?_
      refine a_op rfl (o_mv rfl) ?_
      refine a_op rfl (o_mv rfl) ?_
      refine a_pure rfl rfl rfl cb14 (lstat_ok _ _ _ cel_nilS cel_nilS cel_nilS _ _ (by omega) _ _ (by omega) (hRx) _ _ (by omega) _ _) ?_
      refine a_op rfl (o_mv rfl) ?_
      refine a_if rfl (o_ne rfl rfl) (fun h63 => ?_) (fun h64 => ?_)
      · rw [hlaw] at h63; simp [wantF, *] at h63
      refine a_nil ?_
      refine tq_n ?_
      refine w_false rfl ?_
      refine awp_skip ?_
      refine bq_n ?_
      refine tq_n ?_
      refine w_reg (l := r9_11.toList) rfl r9_11_ok ?_
      refine a_op rfl (o_mv rfl) ?_
      refine a_op rfl (o_add rfl rfl (by simp only [klo, khi]; omega)) ?_
      refine a_op rfl (o_as rfl) ?_
      refine a_nil ?_
      refine tq_n ?_
      exact ⟨p + 1, ⟨⟨by omega, by omega⟩, by omega⟩, ⟨(by first | exact sub_int rfl (by omega) | rfl | exact sub_eq rfl (by rw [fB_succ hA2]; simp [gV, gS, gN, gW, gK, *] <;> omega) | exact sub_eq rfl (by rw [fH_succ hB2]; simp [*])), (by first | exact sub_int rfl (by omega) | rfl | exact sub_eq rfl (by rw [fB_succ hA2]; simp [gV, gS, gN, gW, gK, *] <;> omega) | exact sub_eq rfl (by rw [fH_succ hB2]; simp [*])), (by first | exact sub_int rfl (by omega) | rfl | exact sub_eq rfl (by rw [fB_succ hA2]; simp [gV, gS, gN, gW, gK, *] <;> omega) | exact sub_eq rfl (by rw [fH_succ hB2]; simp [*])), (by first | exact sub_int rfl (by omega) | rfl | exact sub_eq rfl (by rw [fB_succ hA2]; simp [gV, gS, gN, gW, gK, *] <;> omega) | exact sub_eq rfl (by rw [fH_succ hB2]; simp [*])), (by first | exact sub_int rfl (by omega) | rfl | exact sub_eq rfl (by rw [fB_succ hA2]; simp [gV, gS, gN, gW, gK, *] <;> omega) | exact sub_eq rfl (by rw [fH_succ hB2]; simp [*])), (by first | exact sub_int rfl (by omega) | rfl | exact sub_eq rfl (by rw [fB_succ hA2]; simp [gV, gS, gN, gW, gK, *] <;> omega) | exact sub_eq rfl (by rw [fH_succ hB2]; simp [*])), trivial⟩, rfl⟩
    refine a_op rfl (o_as rfl) ?_
    refine a_nil ?_
    refine tq_n ?_
    refine w_false rfl ?_
    refine awp_seq ?_
    refine w_reg (l := r9_37.toList) rfl r9_37_ok ?_
    refine a_ifb rfl (o_mv rfl) (fun h65 => ?_) (fun h66 => ?_)
    · refine a_op rfl (o_mv rfl) ?_
      refine a_ifb rfl (o_mv rfl) (fun h67 => ?_) (fun h68 => ?_)
      · refine a_op rfl (o_ntt rfl) ?_
        refine a_op rfl (o_pkt rfl rfl) ?_
        refine a_op rfl (o_mv rfl) ?_
        refine a_ifb rfl (o_mv rfl) (fun h69 => ?_) (fun h70 => ?_)
        · refine a_op rfl (o_mv rfl) ?_
          refine a_ifb rfl (o_mv rfl) (fun h71 => ?_) (fun h72 => ?_)
          · refine a_op rfl (o_ntt rfl) ?_
            refine a_op rfl (o_pkt rfl rfl) ?_
            refine a_op rfl (o_pkf rfl rfl) ?_
            refine a_op rfl (o_mv rfl) ?_
            refine a_op rfl (o_mv rfl) ?_
            refine a_if rfl (o_gt rfl rfl) (fun h73 => ?_) (fun h74 => ?_)
            · refine a_op rfl (o_mv rfl) ?_
              refine a_ifb rfl (o_mv rfl) (fun h75 => ?_) (fun h76 => ?_)
              · refine a_op rfl (o_pkt rfl rfl) ?_
                refine a_op rfl (o_pkf rfl rfl) ?_
                refine a_op rfl (o_as rfl) ?_
                refine a_nil ?_
                refine tq_n ?_
                refine w_true rfl ?_
                refine w_reg (l := r9_38.toList) rfl r9_38_ok ?_
                refine a_op rfl (o_as rfl) ?_
                refine a_nil ?_
                refine bq_n ?_
                refine tq_n ?_
                refine awp_seq ?_
                refine w_reg (l := r9_39.toList) rfl r9_39_ok ?_
                refine a_op rfl ((by first | exact o_ldg tg30 tn30 rfl rfl | exact o_ldpg tg30 tn30 rfl rfl rfl rfl)) ?_
                refine a_op rfl (o_mv rfl) ?_
                refine a_op rfl (o_mv rfl) ?_
                refine a_op rfl (o_mv rfl) ?_
                refine a_op rfl (o_mv rfl) ?_
                refine a_pure rfl rfl rfl cb14 (lstat_ok _ _ _ cel_nilS cel_nilS cel_nilS _ _ (by omega) _ _ (by omega) (hRx) _ _ (by omega) _ _) ?_
                refine a_op rfl (o_mv rfl) ?_
                refine a_if rfl (o_ne rfl rfl) (fun h77 => ?_) (fun h78 => ?_)
                · rw [hlaw] at h77; simp [wantF, *] at h77
                refine a_nil ?_
                refine tq_n ?_
                refine w_false rfl ?_
                refine awp_skip ?_
                refine bq_n ?_
                refine tq_n ?_
                refine w_reg (l := r9_11.toList) rfl r9_11_ok ?_
                refine a_op rfl (o_mv rfl) ?_
                refine a_op rfl (o_add rfl rfl (by simp only [klo, khi]; omega)) ?_
                refine a_op rfl (o_as rfl) ?_
                refine a_nil ?_
                refine tq_n ?_
                exact ⟨p + 1, ⟨⟨by omega, by omega⟩, by omega⟩, ⟨(by first | exact sub_int rfl (by omega) | rfl | exact sub_eq rfl (by rw [fB_succ hA2]; simp [gV, gS, gN, gW, gK, *] <;> omega) | exact sub_eq rfl (by rw [fH_succ hB2]; simp [*])), (by first | exact sub_int rfl (by omega) | rfl | exact sub_eq rfl (by rw [fB_succ hA2]; simp [gV, gS, gN, gW, gK, *] <;> omega) | exact sub_eq rfl (by rw [fH_succ hB2]; simp [*])), (by first | exact sub_int rfl (by omega) | rfl | exact sub_eq rfl (by rw [fB_succ hA2]; simp [gV, gS, gN, gW, gK, *] <;> omega) | exact sub_eq rfl (by rw [fH_succ hB2]; simp [*])), (by first | exact sub_int rfl (by omega) | rfl | exact sub_eq rfl (by rw [fB_succ hA2]; simp [gV, gS, gN, gW, gK, *] <;> omega) | exact sub_eq rfl (by rw [fH_succ hB2]; simp [*])), (by first | exact sub_int rfl (by omega) | rfl | exact sub_eq rfl (by rw [fB_succ hA2]; simp [gV, gS, gN, gW, gK, *] <;> omega) | exact sub_eq rfl (by rw [fH_succ hB2]; simp [*])), (by first | exact sub_int rfl (by omega) | rfl | exact sub_eq rfl (by rw [fB_succ hA2]; simp [gV, gS, gN, gW, gK, *] <;> omega) | exact sub_eq rfl (by rw [fH_succ hB2]; simp [*])), trivial⟩, rfl⟩
              refine a_op rfl (o_pkt rfl rfl) ?_
              refine a_op rfl (o_pkf rfl rfl) ?_
              refine a_op rfl (o_as rfl) ?_
              refine a_nil ?_
              refine tq_n ?_
              refine w_false rfl ?_
              refine awp_skip ?_
              refine bq_n ?_
              refine tq_n ?_
              refine awp_seq ?_
              refine w_reg (l := r9_39.toList) rfl r9_39_ok ?_
              refine a_op rfl ((by first | exact o_ldg tg30 tn30 rfl rfl | exact o_ldpg tg30 tn30 rfl rfl rfl rfl)) ?_
              refine a_op rfl (o_mv rfl) ?_
              refine a_op rfl (o_mv rfl) ?_
              refine a_op rfl (o_mv rfl) ?_
              refine a_op rfl (o_mv rfl) ?_
              refine a_pure rfl rfl rfl cb14 (lstat_ok _ _ _ cel_nilS cel_nilS cel_nilS _ _ (by omega) _ _ (by omega) (hRx) _ _ (by omega) _ _) ?_
              refine a_op rfl (o_mv rfl) ?_
              refine a_if rfl (o_ne rfl rfl) (fun h79 => ?_) (fun h80 => ?_)
              · rw [hlaw] at h79; simp [wantF, *] at h79
              refine a_nil ?_
              refine tq_n ?_
              refine w_false rfl ?_
              refine awp_skip ?_
              refine bq_n ?_
              refine tq_n ?_
              refine w_reg (l := r9_11.toList) rfl r9_11_ok ?_
              refine a_op rfl (o_mv rfl) ?_
              refine a_op rfl (o_add rfl rfl (by simp only [klo, khi]; omega)) ?_
              refine a_op rfl (o_as rfl) ?_
              refine a_nil ?_
              refine tq_n ?_
              exact ⟨p + 1, ⟨⟨by omega, by omega⟩, by omega⟩, ⟨(by first | exact sub_int rfl (by omega) | rfl | exact sub_eq rfl (by rw [fB_succ hA2]; simp [gV, gS, gN, gW, gK, *] <;> omega) | exact sub_eq rfl (by rw [fH_succ hB2]; simp [*])), (by first | exact sub_int rfl (by omega) | rfl | exact sub_eq rfl (by rw [fB_succ hA2]; simp [gV, gS, gN, gW, gK, *] <;> omega) | exact sub_eq rfl (by rw [fH_succ hB2]; simp [*])), (by first | exact sub_int rfl (by omega) | rfl | exact sub_eq rfl (by rw [fB_succ hA2]; simp [gV, gS, gN, gW, gK, *] <;> omega) | exact sub_eq rfl (by rw [fH_succ hB2]; simp [*])), (by first | exact sub_int rfl (by omega) | rfl | exact sub_eq rfl (by rw [fB_succ hA2]; simp [gV, gS, gN, gW, gK, *] <;> omega) | exact sub_eq rfl (by rw [fH_succ hB2]; simp [*])), (by first | exact sub_int rfl (by omega) | rfl | exact sub_eq rfl (by rw [fB_succ hA2]; simp [gV, gS, gN, gW, gK, *] <;> omega) | exact sub_eq rfl (by rw [fH_succ hB2]; simp [*])), (by first | exact sub_int rfl (by omega) | rfl | exact sub_eq rfl (by rw [fB_succ hA2]; simp [gV, gS, gN, gW, gK, *] <;> omega) | exact sub_eq rfl (by rw [fH_succ hB2]; simp [*])), trivial⟩, rfl⟩
            refine a_op rfl (o_mv rfl) ?_
            refine a_off rfl ?_
            refine a_op rfl (o_pkf rfl rfl) ?_
            refine a_op rfl (o_pkf rfl rfl) ?_
            refine a_op rfl (o_as rfl) ?_
            refine a_nil ?_
            refine tq_n ?_
            refine w_false rfl ?_
            refine awp_skip ?_
            refine bq_n ?_
            refine tq_n ?_
            refine awp_seq ?_
            refine w_reg (l := r9_39.toList) rfl r9_39_ok ?_
            refine a_op rfl ((by first | exact o_ldg tg30 tn30 rfl rfl | exact o_ldpg tg30 tn30 rfl rfl rfl rfl)) ?_
            refine a_op rfl (o_mv rfl) ?_
            refine a_op rfl (o_mv rfl) ?_
            refine a_op rfl (o_mv rfl) ?_
            refine a_op rfl (o_mv rfl) ?_
            refine a_pure rfl rfl rfl cb14 (lstat_ok _ _ _ cel_nilS cel_nilS cel_nilS _ _ (by omega) _ _ (by omega) (hRx) _ _ (by omega) _ _) ?_
            refine a_op rfl (o_mv rfl) ?_
            refine a_if rfl (o_ne rfl rfl) (fun h81 => ?_) (fun h82 => ?_)
            · rw [hlaw] at h81; simp [wantF, *] at h81
            refine a_nil ?_
            refine tq_n ?_
            refine w_false rfl ?_
            refine awp_skip ?_
            refine bq_n ?_
            refine tq_n ?_
            refine w_reg (l := r9_11.toList) rfl r9_11_ok ?_
            refine a_op rfl (o_mv rfl) ?_
            refine a_op rfl (o_add rfl rfl (by simp only [klo, khi]; omega)) ?_
            refine a_op rfl (o_as rfl) ?_
            refine a_nil ?_
            refine tq_n ?_
            exact ⟨p + 1, ⟨⟨by omega, by omega⟩, by omega⟩, ⟨(by first | exact sub_int rfl (by omega) | rfl | exact sub_eq rfl (by rw [fB_succ hA2]; simp [gV, gS, gN, gW, gK, *] <;> omega) | exact sub_eq rfl (by rw [fH_succ hB2]; simp [*])), (by first | exact sub_int rfl (by omega) | rfl | exact sub_eq rfl (by rw [fB_succ hA2]; simp [gV, gS, gN, gW, gK, *] <;> omega) | exact sub_eq rfl (by rw [fH_succ hB2]; simp [*])), (by first | exact sub_int rfl (by omega) | rfl | exact sub_eq rfl (by rw [fB_succ hA2]; simp [gV, gS, gN, gW, gK, *] <;> omega) | exact sub_eq rfl (by rw [fH_succ hB2]; simp [*])), (by first | exact sub_int rfl (by omega) | rfl | exact sub_eq rfl (by rw [fB_succ hA2]; simp [gV, gS, gN, gW, gK, *] <;> omega) | exact sub_eq rfl (by rw [fH_succ hB2]; simp [*])), (by first | exact sub_int rfl (by omega) | rfl | exact sub_eq rfl (by rw [fB_succ hA2]; simp [gV, gS, gN, gW, gK, *] <;> omega) | exact sub_eq rfl (by rw [fH_succ hB2]; simp [*])), (by first | exact sub_int rfl (by omega) | rfl | exact sub_eq rfl (by rw [fB_succ hA2]; simp [gV, gS, gN, gW, gK, *] <;> omega) | exact sub_eq rfl (by rw [fH_succ hB2]; simp [*])), trivial⟩, rfl⟩
          refine a_op rfl (o_ntf rfl) ?_
          refine a_op rfl (o_pkt rfl rfl) ?_
          refine a_op rfl (o_pkf rfl rfl) ?_
          refine a_op rfl (o_mv rfl) ?_
          refine a_off rfl ?_
          refine a_off rfl ?_
          refine a_off rfl ?_
          refine a_off rfl ?_
          refine a_off rfl ?_
          refine a_op rfl (o_pkt rfl rfl) ?_
          refine a_op rfl (o_as rfl) ?_
          refine a_nil ?_
          refine tq_n ?_
          refine w_true rfl ?_
          refine w_reg (l := r9_38.toList) rfl r9_38_ok ?_
          refine a_op rfl (o_as rfl) ?_
          refine a_nil ?_
          refine bq_n ?_
          refine tq_n ?_
          refine awp_seq ?_
          refine w_reg (l := r9_39.toList) rfl r9_39_ok ?_
          refine a_op rfl ((by first | exact o_ldg tg30 tn30 rfl rfl | exact o_ldpg tg30 tn30 rfl rfl rfl rfl)) ?_
          refine a_op rfl (o_mv rfl) ?_
          refine a_op rfl (o_mv rfl) ?_
          refine a_op rfl (o_mv rfl) ?_
          refine a_op rfl (o_mv rfl) ?_
          refine a_pure rfl rfl rfl cb14 (lstat_ok _ _ _ cel_nilS cel_nilS cel_nilS _ _ (by omega) _ _ (by omega) (hRx) _ _ (by omega) _ _) ?_
          refine a_op rfl (o_mv rfl) ?_
          refine a_if rfl (o_ne rfl rfl) (fun h83 => ?_) (fun h84 => ?_)
          · rw [hlaw] at h83; simp [wantF, *] at h83
          refine a_nil ?_
          refine tq_n ?_
          refine w_false rfl ?_
          refine awp_skip ?_
          refine bq_n ?_
          refine tq_n ?_
          refine w_reg (l := r9_11.toList) rfl r9_11_ok ?_
          refine a_op rfl (o_mv rfl) ?_
          refine a_op rfl (o_add rfl rfl (by simp only [klo, khi]; omega)) ?_
          refine a_op rfl (o_as rfl) ?_
          refine a_nil ?_
          refine tq_n ?_
          exact ⟨p + 1, ⟨⟨by omega, by omega⟩, by omega⟩, ⟨(by first | exact sub_int rfl (by omega) | rfl | exact sub_eq rfl (by rw [fB_succ hA2]; simp [gV, gS, gN, gW, gK, *] <;> omega) | exact sub_eq rfl (by rw [fH_succ hB2]; simp [*])), (by first | exact sub_int rfl (by omega) | rfl | exact sub_eq rfl (by rw [fB_succ hA2]; simp [gV, gS, gN, gW, gK, *] <;> omega) | exact sub_eq rfl (by rw [fH_succ hB2]; simp [*])), (by first | exact sub_int rfl (by omega) | rfl | exact sub_eq rfl (by rw [fB_succ hA2]; simp [gV, gS, gN, gW, gK, *] <;> omega) | exact sub_eq rfl (by rw [fH_succ hB2]; simp [*])), (by first | exact sub_int rfl (by omega) | rfl | exact sub_eq rfl (by rw [fB_succ hA2]; simp [gV, gS, gN, gW, gK, *] <;> omega) | exact sub_eq rfl (by rw [fH_succ hB2]; simp [*])), (by first | exact sub_int rfl (by omega) | rfl | exact sub_eq rfl (by rw [fB_succ hA2]; simp [gV, gS, gN, gW, gK, *] <;> omega) | exact sub_eq rfl (by rw [fH_succ hB2]; simp [*])), (by first | exact sub_int rfl (by omega) | rfl | exact sub_eq rfl (by rw [fB_succ hA2]; simp [gV, gS, gN, gW, gK, *] <;> omega) | exact sub_eq rfl (by rw [fH_succ hB2]; simp [*])), trivial⟩, rfl⟩
        refine a_op rfl (o_mv rfl) ?_
        refine a_off rfl ?_
        refine a_off rfl ?_
        refine a_op rfl (o_pkf rfl rfl) ?_
        refine a_op rfl (o_pkf rfl rfl) ?_
        refine a_op rfl (o_mv rfl) ?_
        refine a_op rfl (o_mv rfl) ?_
        refine a_if rfl (o_gt rfl rfl) (fun h85 => ?_) (fun h86 => ?_)
        · refine a_op rfl (o_mv rfl) ?_
          refine a_ifb rfl (o_mv rfl) (fun h87 => ?_) (fun h88 => ?_)
          · refine a_op rfl (o_pkt rfl rfl) ?_
            refine a_op rfl (o_pkf rfl rfl) ?_
            refine a_op rfl (o_as rfl) ?_
            refine a_nil ?_
            refine tq_n ?_
            refine w_true rfl ?_
            refine w_reg (l := r9_38.toList) rfl r9_38_ok ?_
            refine a_op rfl (o_as rfl) ?_
            refine a_nil ?_
            refine bq_n ?_
            refine tq_n ?_
            refine awp_seq ?_
            refine w_reg (l := r9_39.toList) rfl r9_39_ok ?_
            refine a_op rfl ((by first | exact o_ldg tg30 tn30 rfl rfl | exact o_ldpg tg30 tn30 rfl rfl rfl rfl)) ?_
            refine a_op rfl (o_mv rfl) ?_
            refine a_op rfl (o_mv rfl) ?_
            refine a_op rfl (o_mv rfl) ?_
            refine a_op rfl (o_mv rfl) ?_
            refine a_pure rfl rfl rfl cb14 (lstat_ok _ _ _ cel_nilS cel_nilS cel_nilS _ _ (by omega) _ _ (by omega) (hRx) _ _ (by omega) _ _) ?_
            refine a_op rfl (o_mv rfl) ?_
            refine a_if rfl (o_ne rfl rfl) (fun h89 => ?_) (fun h90 => ?_)
            · rw [hlaw] at h89; simp [wantF, *] at h89
            refine a_nil ?_
            refine tq_n ?_
            refine w_false rfl ?_
            refine awp_skip ?_
            refine bq_n ?_
            refine tq_n ?_
            refine w_reg (l := r9_11.toList) rfl r9_11_ok ?_
            refine a_op rfl (o_mv rfl) ?_
            refine a_op rfl (o_add rfl rfl (by simp only [klo, khi]; omega)) ?_
            refine a_op rfl (o_as rfl) ?_
            refine a_nil ?_
            refine tq_n ?_
            exact ⟨p + 1, ⟨⟨by omega, by omega⟩, by omega⟩, ⟨(by first | exact sub_int rfl (by omega) | rfl | exact sub_eq rfl (by rw [fB_succ hA2]; simp [gV, gS, gN, gW, gK, *] <;> omega) | exact sub_eq rfl (by rw [fH_succ hB2]; simp [*])), (by first | exact sub_int rfl (by omega) | rfl | exact sub_eq rfl (by rw [fB_succ hA2]; simp [gV, gS, gN, gW, gK, *] <;> omega) | exact sub_eq rfl (by rw [fH_succ hB2]; simp [*])), (by first | exact sub_int rfl (by omega) | rfl | exact sub_eq rfl (by rw [fB_succ hA2]; simp [gV, gS, gN, gW, gK, *] <;> omega) | exact sub_eq rfl (by rw [fH_succ hB2]; simp [*])), (by first | exact sub_int rfl (by omega) | rfl | exact sub_eq rfl (by rw [fB_succ hA2]; simp [gV, gS, gN, gW, gK, *] <;> omega) | exact sub_eq rfl (by rw [fH_succ hB2]; simp [*])), (by first | exact sub_int rfl (by omega) | rfl | exact sub_eq rfl (by rw [fB_succ hA2]; simp [gV, gS, gN, gW, gK, *] <;> omega) | exact sub_eq rfl (by rw [fH_succ hB2]; simp [*])), (by first | exact sub_int rfl (by omega) | rfl | exact sub_eq rfl (by rw [fB_succ hA2]; simp [gV, gS, gN, gW, gK, *] <;> omega) | exact sub_eq rfl (by rw [fH_succ hB2]; simp [*])), trivial⟩, rfl⟩
          refine a_op rfl (o_pkt rfl rfl) ?_
          refine a_op rfl (o_pkf rfl rfl) ?_
          refine a_op rfl (o_as rfl) ?_
          refine a_nil ?_
          refine tq_n ?_
          refine w_false rfl ?_
          refine awp_skip ?_
          refine bq_n ?_
          refine tq_n ?_
          refine awp_seq ?_
          refine w_reg (l := r9_39.toList) rfl r9_39_ok ?_
          refine a_op rfl ((by first | exact o_ldg tg30 tn30 rfl rfl | exact o_ldpg tg30 tn30 rfl rfl rfl rfl)) ?_
          refine a_op rfl (o_mv rfl) ?_
          refine a_op rfl (o_mv rfl) ?_
          refine a_op rfl (o_mv rfl) ?_
          refine a_op rfl (o_mv rfl) ?_
          refine a_pure rfl rfl rfl cb14 (lstat_ok _ _ _ cel_nilS cel_nilS cel_nilS _ _ (by omega) _ _ (by omega) (hRx) _ _ (by omega) _ _) ?_
          refine a_op rfl (o_mv rfl) ?_
          refine a_if rfl (o_ne rfl rfl) (fun h91 => ?_) (fun h92 => ?_)
          · rw [hlaw] at h91; simp [wantF, *] at h91
          refine a_nil ?_
          refine tq_n ?_
          refine w_false rfl ?_
          refine awp_skip ?_
          refine bq_n ?_
          refine tq_n ?_
          refine w_reg (l := r9_11.toList) rfl r9_11_ok ?_
          refine a_op rfl (o_mv rfl) ?_
          refine a_op rfl (o_add rfl rfl (by simp only [klo, khi]; omega)) ?_
          refine a_op rfl (o_as rfl) ?_
          refine a_nil ?_
          refine tq_n ?_
          exact ⟨p + 1, ⟨⟨by omega, by omega⟩, by omega⟩, ⟨(by first | exact sub_int rfl (by omega) | rfl | exact sub_eq rfl (by rw [fB_succ hA2]; simp [gV, gS, gN, gW, gK, *] <;> omega) | exact sub_eq rfl (by rw [fH_succ hB2]; simp [*])), (by first | exact sub_int rfl (by omega) | rfl | exact sub_eq rfl (by rw [fB_succ hA2]; simp [gV, gS, gN, gW, gK, *] <;> omega) | exact sub_eq rfl (by rw [fH_succ hB2]; simp [*])), (by first | exact sub_int rfl (by omega) | rfl | exact sub_eq rfl (by rw [fB_succ hA2]; simp [gV, gS, gN, gW, gK, *] <;> omega) | exact sub_eq rfl (by rw [fH_succ hB2]; simp [*])), (by first | exact sub_int rfl (by omega) | rfl | exact sub_eq rfl (by rw [fB_succ hA2]; simp [gV, gS, gN, gW, gK, *] <;> omega) | exact sub_eq rfl (by rw [fH_succ hB2]; simp [*])), (by first | exact sub_int rfl (by omega) | rfl | exact sub_eq rfl (by rw [fB_succ hA2]; simp [gV, gS, gN, gW, gK, *] <;> omega) | exact sub_eq rfl (by rw [fH_succ hB2]; simp [*])), (by first | exact sub_int rfl (by omega) | rfl | exact sub_eq rfl (by rw [fB_succ hA2]; simp [gV, gS, gN, gW, gK, *] <;> omega) | exact sub_eq rfl (by rw [fH_succ hB2]; simp [*])), trivial⟩, rfl⟩
        refine a_op rfl (o_mv rfl) ?_
        refine a_off rfl ?_
        refine a_op rfl (o_pkf rfl rfl) ?_
        refine a_op rfl (o_pkf rfl rfl) ?_
        refine a_op rfl (o_as rfl) ?_
        refine a_nil ?_
        refine tq_n ?_
        refine w_false rfl ?_
        refine awp_skip ?_
        refine bq_n ?_
        refine tq_n ?_
        refine awp_seq ?_
        refine w_reg (l := r9_39.toList) rfl r9_39_ok ?_
        refine a_op rfl ((by first | exact o_ldg tg30 tn30 rfl rfl | exact o_ldpg tg30 tn30 rfl rfl rfl rfl)) ?_
        refine a_op rfl (o_mv rfl) ?_
        refine a_op rfl (o_mv rfl) ?_
        refine a_op rfl (o_mv rfl) ?_
        refine a_op rfl (o_mv rfl) ?_
        refine a_pure rfl rfl rfl cb14 (lstat_ok _ _ _ cel_nilS cel_nilS cel_nilS _ _ (by omega) _ _ (by omega) (hRx) _ _ (by omega) _ _) ?_
        refine a_op rfl (o_mv rfl) ?_
        refine a_if rfl (o_ne rfl rfl) (fun h93 => ?_) (fun h94 => ?_)
        · rw [hlaw] at h93; simp [wantF, *] at h93
        refine a_nil ?_
        refine tq_n ?_
        refine w_false rfl ?_
        refine awp_skip ?_
        refine bq_n ?_
        refine tq_n ?_
        refine w_reg (l := r9_11.toList) rfl r9_11_ok ?_
        refine a_op rfl (o_mv rfl) ?_
        refine a_op rfl (o_add rfl rfl (by simp only [klo, khi]; omega)) ?_
        refine a_op rfl (o_as rfl) ?_
        refine a_nil ?_
        refine tq_n ?_
        exact ⟨p + 1, ⟨⟨by omega, by omega⟩, by omega⟩, ⟨(by first | exact sub_int rfl (by omega) | rfl | exact sub_eq rfl (by rw [fB_succ hA2]; simp [gV, gS, gN, gW, gK, *] <;> omega) | exact sub_eq rfl (by rw [fH_succ hB2]; simp [*])), (by first | exact sub_int rfl (by omega) | rfl | exact sub_eq rfl (by rw [fB_succ hA2]; simp [gV, gS, gN, gW, gK, *] <;> omega) | exact sub_eq rfl (by rw [fH_succ hB2]; simp [*])), (by first | exact sub_int rfl (by omega) | rfl | exact sub_eq rfl (by rw [fB_succ hA2]; simp [gV, gS, gN, gW, gK, *] <;> omega) | exact sub_eq rfl (by rw [fH_succ hB2]; simp [*])), (by first | exact sub_int rfl (by omega) | rfl | exact sub_eq rfl (by rw [fB_succ hA2]; simp [gV, gS, gN, gW, gK, *] <;> omega) | exact sub_eq rfl (by rw [fH_succ hB2]; simp [*])), (by first | exact sub_int rfl (by omega) | rfl | exact sub_eq rfl (by rw [fB_succ hA2]; simp [gV, gS, gN, gW, gK, *] <;> omega) | exact sub_eq rfl (by rw [fH_succ hB2]; simp [*])), (by first | exact sub_int rfl (by omega) | rfl | exact sub_eq rfl (by rw [fB_succ hA2]; simp [gV, gS, gN, gW, gK, *] <;> omega) | exact sub_eq rfl (by rw [fH_succ hB2]; simp [*])), trivial⟩, rfl⟩
      refine a_op rfl (o_ntf rfl) ?_
      refine a_op rfl (o_pkt rfl rfl) ?_
      refine a_op rfl (o_mv rfl) ?_
      refine a_off rfl ?_
      refine a_off rfl ?_
      refine a_off rfl ?_
      refine a_off rfl ?_
      refine a_off rfl ?_
      refine a_op rfl (o_pkt rfl rfl) ?_
      refine a_op rfl (o_mv rfl) ?_
      refine a_off rfl ?_
      refine a_off rfl ?_
      refine a_off rfl ?_
      refine a_off rfl ?_
      refine a_off rfl ?_
      refine a_op rfl (o_pkt rfl rfl) ?_
      refine a_op rfl (o_as rfl) ?_
      refine a_nil ?_
      refine tq_n ?_
      refine w_true rfl ?_
      refine w_reg (l := r9_38.toList) rfl r9_38_ok ?_
      refine a_op rfl (o_as rfl) ?_
      refine a_nil ?_
      refine bq_n ?_
      refine tq_n ?_
      refine awp_seq ?_
      refine w_reg (l := r9_39.toList) rfl r9_39_ok ?_
      refine a_op rfl ((by first | exact o_ldg tg30 tn30 rfl rfl | exact o_ldpg tg30 tn30 rfl rfl rfl rfl)) ?_
      refine a_op rfl (o_mv rfl) ?_
      refine a_op rfl (o_mv rfl) ?_
      refine a_op rfl (o_mv rfl) ?_
      refine a_op rfl (o_mv rfl) ?_
      refine a_pure rfl rfl rfl cb14 (lstat_ok _ _ _ cel_nilS cel_nilS cel_nilS _ _ (by omega) _ _ (by omega) (hRx) _ _ (by omega) _ _) ?_
      refine a_op rfl (o_mv rfl) ?_
      refine a_if rfl (o_ne rfl rfl) (fun h95 => ?_) (fun h96 => ?_)
      · rw [hlaw] at h95; simp [wantF, *] at h95
      refine a_nil ?_
      refine tq_n ?_
      refine w_false rfl ?_
      refine awp_skip ?_
      refine bq_n ?_
      refine tq_n ?_
      refine w_reg (l := r9_11.toList) rfl r9_11_ok ?_
      refine a_op rfl (o_mv rfl) ?_
      refine a_op rfl (o_add rfl rfl (by simp only [klo, khi]; omega)) ?_
      refine a_op rfl (o_as rfl) ?_
      refine a_nil ?_
      refine tq_n ?_
      exact ⟨p + 1, ⟨⟨by omega, by omega⟩, by omega⟩, ⟨(by first | exact sub_int rfl (by omega) | rfl | exact sub_eq rfl (by rw [fB_succ hA2]; simp [gV, gS, gN, gW, gK, *] <;> omega) | exact sub_eq rfl (by rw [fH_succ hB2]; simp [*])), (by first | exact sub_int rfl (by omega) | rfl | exact sub_eq rfl (by rw [fB_succ hA2]; simp [gV, gS, gN, gW, gK, *] <;> omega) | exact sub_eq rfl (by rw [fH_succ hB2]; simp [*])), (by first | exact sub_int rfl (by omega) | rfl | exact sub_eq rfl (by rw [fB_succ hA2]; simp [gV, gS, gN, gW, gK, *] <;> omega) | exact sub_eq rfl (by rw [fH_succ hB2]; simp [*])), (by first | exact sub_int rfl (by omega) | rfl | exact sub_eq rfl (by rw [fB_succ hA2]; simp [gV, gS, gN, gW, gK, *] <;> omega) | exact sub_eq rfl (by rw [fH_succ hB2]; simp [*])), (by first | exact sub_int rfl (by omega) | rfl | exact sub_eq rfl (by rw [fB_succ hA2]; simp [gV, gS, gN, gW, gK, *] <;> omega) | exact sub_eq rfl (by rw [fH_succ hB2]; simp [*])), (by first | exact sub_int rfl (by omega) | rfl | exact sub_eq rfl (by rw [fB_succ hA2]; simp [gV, gS, gN, gW, gK, *] <;> omega) | exact sub_eq rfl (by rw [fH_succ hB2]; simp [*])), trivial⟩, rfl⟩
    refine a_op rfl (o_mv rfl) ?_
    refine a_off rfl ?_
    refine a_off rfl ?_
    refine a_op rfl (o_pkf rfl rfl) ?_
    refine a_op rfl (o_mv rfl) ?_
    refine a_ifb rfl (o_mv rfl) (fun h97 => ?_) (fun h98 => ?_)
    · refine a_op rfl (o_mv rfl) ?_
      refine a_ifb rfl (o_mv rfl) (fun h99 => ?_) (fun h100 => ?_)
      · refine a_op rfl (o_ntt rfl) ?_
        refine a_op rfl (o_pkt rfl rfl) ?_
        refine a_op rfl (o_pkf rfl rfl) ?_
        refine a_op rfl (o_mv rfl) ?_
        refine a_op rfl (o_mv rfl) ?_
        refine a_if rfl (o_gt rfl rfl) (fun h101 => ?_) (fun h102 => ?_)
        · refine a_op rfl (o_mv rfl) ?_
          refine a_ifb rfl (o_mv rfl) (fun h103 => ?_) (fun h104 => ?_)
          · refine a_op rfl (o_pkt rfl rfl) ?_
            refine a_op rfl (o_pkf rfl rfl) ?_
            refine a_op rfl (o_as rfl) ?_
            refine a_nil ?_
            refine tq_n ?_
            refine w_true rfl ?_
            refine w_reg (l := r9_38.toList) rfl r9_38_ok ?_
            refine a_op rfl (o_as rfl) ?_
            refine a_nil ?_
            refine bq_n ?_
            refine tq_n ?_
            refine awp_seq ?_
            refine w_reg (l := r9_39.toList) rfl r9_39_ok ?_
            refine a_op rfl ((by first | exact o_ldg tg30 tn30 rfl rfl | exact o_ldpg tg30 tn30 rfl rfl rfl rfl)) ?_
            refine a_op rfl (o_mv rfl) ?_
            refine a_op rfl (o_mv rfl) ?_
            refine a_op rfl (o_mv rfl) ?_
            refine a_op rfl (o_mv rfl) ?_
            refine a_pure rfl rfl rfl cb14 (lstat_ok _ _ _ cel_nilS cel_nilS cel_nilS _ _ (by omega) _ _ (by omega) (hRx) _ _ (by omega) _ _) ?_
            refine a_op rfl (o_mv rfl) ?_
            refine a_if rfl (o_ne rfl rfl) (fun h105 => ?_) (fun h106 => ?_)
            · rw [hlaw] at h105; simp [wantF, *] at h105
            refine a_nil ?_
            refine tq_n ?_
            refine w_false rfl ?_
            refine awp_skip ?_
            refine bq_n ?_
            refine tq_n ?_
            refine w_reg (l := r9_11.toList) rfl r9_11_ok ?_
            refine a_op rfl (o_mv rfl) ?_
            refine a_op rfl (o_add rfl rfl (by simp only [klo, khi]; omega)) ?_
            refine a_op rfl (o_as rfl) ?_
            refine a_nil ?_
            refine tq_n ?_
            exact ⟨p + 1, ⟨⟨by omega, by omega⟩, by omega⟩, ⟨(by first | exact sub_int rfl (by omega) | rfl | exact sub_eq rfl (by rw [fB_succ hA2]; simp [gV, gS, gN, gW, gK, *] <;> omega) | exact sub_eq rfl (by rw [fH_succ hB2]; simp [*])), (by first | exact sub_int rfl (by omega) | rfl | exact sub_eq rfl (by rw [fB_succ hA2]; simp [gV, gS, gN, gW, gK, *] <;> omega) | exact sub_eq rfl (by rw [fH_succ hB2]; simp [*])), (by first | exact sub_int rfl (by omega) | rfl | exact sub_eq rfl (by rw [fB_succ hA2]; simp [gV, gS, gN, gW, gK, *] <;> omega) | exact sub_eq rfl (by rw [fH_succ hB2]; simp [*])), (by first | exact sub_int rfl (by omega) | rfl | exact sub_eq rfl (by rw [fB_succ hA2]; simp [gV, gS, gN, gW, gK, *] <;> omega) | exact sub_eq rfl (by rw [fH_succ hB2]; simp [*])), (by first | exact sub_int rfl (by omega) | rfl | exact sub_eq rfl (by rw [fB_succ hA2]; simp [gV, gS, gN, gW, gK, *] <;> omega) | exact sub_eq rfl (by rw [fH_succ hB2]; simp [*])), (by first | exact sub_int rfl (by omega) | rfl | exact sub_eq rfl (by rw [fB_succ hA2]; simp [gV, gS, gN, gW, gK, *] <;> omega) | exact sub_eq rfl (by rw [fH_succ hB2]; simp [*])), trivial⟩, rfl⟩
          refine a_op rfl (o_pkt rfl rfl) ?_
          refine a_op rfl (o_pkf rfl rfl) ?_
          refine a_op rfl (o_as rfl) ?_
          refine a_nil ?_
          refine tq_n ?_
          refine w_false rfl ?_
          refine awp_skip ?_
          refine bq_n ?_
          refine tq_n ?_
          refine awp_seq ?_
          refine w_reg (l := r9_39.toList) rfl r9_39_ok ?_
          refine a_op rfl ((by first | exact o_ldg tg30 tn30 rfl rfl | exact o_ldpg tg30 tn30 rfl rfl rfl rfl)) ?_
          refine a_op rfl (o_mv rfl) ?_
          refine a_op rfl (o_mv rfl) ?_
          refine a_op rfl (o_mv rfl) ?_
          refine a_op rfl (o_mv rfl) ?_
          refine a_pure rfl rfl rfl cb14 (lstat_ok _ _ _ cel_nilS cel_nilS cel_nilS _ _ (by omega) _ _ (by omega) (hRx) _ _ (by omega) _ _) ?_
          refine a_op rfl (o_mv rfl) ?_
          refine a_if rfl (o_ne rfl rfl) (fun h107 => ?_) (fun h108 => ?_)
          · rw [hlaw] at h107; simp [wantF, *] at h107
          refine a_nil ?_
          refine tq_n ?_
          refine w_false rfl ?_
          refine awp_skip ?_
          refine bq_n ?_
          refine tq_n ?_
          refine w_reg (l := r9_11.toList) rfl r9_11_ok ?_
          refine a_op rfl (o_mv rfl) ?_
          refine a_op rfl (o_add rfl rfl (by simp only [klo, khi]; omega)) ?_
          refine a_op rfl (o_as rfl) ?_
          refine a_nil ?_
          refine tq_n ?_
          exact ⟨p + 1, ⟨⟨by omega, by omega⟩, by omega⟩, ⟨(by first | exact sub_int rfl (by omega) | rfl | exact sub_eq rfl (by rw [fB_succ hA2]; simp [gV, gS, gN, gW, gK, *] <;> omega) | exact sub_eq rfl (by rw [fH_succ hB2]; simp [*])), (by first | exact sub_int rfl (by omega) | rfl | exact sub_eq rfl (by rw [fB_succ hA2]; simp [gV, gS, gN, gW, gK, *] <;> omega) | exact sub_eq rfl (by rw [fH_succ hB2]; simp [*])), (by first | exact sub_int rfl (by omega) | rfl | exact sub_eq rfl (by rw [fB_succ hA2]; simp [gV, gS, gN, gW, gK, *] <;> omega) | exact sub_eq rfl (by rw [fH_succ hB2]; simp [*])), (by first | exact sub_int rfl (by omega) | rfl | exact sub_eq rfl (by rw [fB_succ hA2]; simp [gV, gS, gN, gW, gK, *] <;> omega) | exact sub_eq rfl (by rw [fH_succ hB2]; simp [*])), (by first | exact sub_int rfl (by omega) | rfl | exact sub_eq rfl (by rw [fB_succ hA2]; simp [gV, gS, gN, gW, gK, *] <;> omega) | exact sub_eq rfl (by rw [fH_succ hB2]; simp [*])), (by first | exact sub_int rfl (by omega) | rfl | exact sub_eq rfl (by rw [fB_succ hA2]; simp [gV, gS, gN, gW, gK, *] <;> omega) | exact sub_eq rfl (by rw [fH_succ hB2]; simp [*])), trivial⟩, rfl⟩
        refine a_op rfl (o_mv rfl) ?_
        refine a_off rfl ?_
        refine a_op rfl (o_pkf rfl rfl) ?_
        refine a_op rfl (o_pkf rfl rfl) ?_
        refine a_op rfl (o_as rfl) ?_
        refine a_nil ?_
        refine tq_n ?_
        refine w_false rfl ?_
        refine awp_skip ?_
        refine bq_n ?_
        refine tq_n ?_
        refine awp_seq ?_
        refine w_reg (l := r9_39.toList) rfl r9_39_ok ?_
        refine a_op rfl ((by first | exact o_ldg tg30 tn30 rfl rfl | exact o_ldpg tg30 tn30 rfl rfl rfl rfl)) ?_
        refine a_op rfl (o_mv rfl) ?_
        refine a_op rfl (o_mv rfl) ?_
        refine a_op rfl (o_mv rfl) ?_
        refine a_op rfl (o_mv rfl) ?_
        refine a_pure rfl rfl rfl cb14 (lstat_ok _ _ _ cel_nilS cel_nilS cel_nilS _ _ (by omega) _ _ (by omega) (hRx) _ _ (by omega) _ _) ?_
        refine a_op rfl (o_mv rfl) ?_
        refine a_if rfl (o_ne rfl rfl) (fun h109 => ?_) (fun h110 => ?_)
        · rw [hlaw] at h109; simp [wantF, *] at h109
        refine a_nil ?_
        refine tq_n ?_
        refine w_false rfl ?_
        refine awp_skip ?_
        refine bq_n ?_
        refine tq_n ?_
        refine w_reg (l := r9_11.toList) rfl r9_11_ok ?_
        refine a_op rfl (o_mv rfl) ?_
        refine a_op rfl (o_add rfl rfl (by simp only [klo, khi]; omega)) ?_
        refine a_op rfl (o_as rfl) ?_
        refine a_nil ?_
        refine tq_n ?_
        exact ⟨p + 1, ⟨⟨by omega, by omega⟩, by omega⟩, ⟨(by first | exact sub_int rfl (by omega) | rfl | exact sub_eq rfl (by rw [fB_succ hA2]; simp [gV, gS, gN, gW, gK, *] <;> omega) | exact sub_eq rfl (by rw [fH_succ hB2]; simp [*])), (by first | exact sub_int rfl (by omega) | rfl | exact sub_eq rfl (by rw [fB_succ hA2]; simp [gV, gS, gN, gW, gK, *] <;> omega) | exact sub_eq rfl (by rw [fH_succ hB2]; simp [*])), (by first | exact sub_int rfl (by omega) | rfl | exact sub_eq rfl (by rw [fB_succ hA2]; simp [gV, gS, gN, gW, gK, *] <;> omega) | exact sub_eq rfl (by rw [fH_succ hB2]; simp [*])), (by first | exact sub_int rfl (by omega) | rfl | exact sub_eq rfl (by rw [fB_succ hA2]; simp [gV, gS, gN, gW, gK, *] <;> omega) | exact sub_eq rfl (by rw [fH_succ hB2]; simp [*])), (by first | exact sub_int rfl (by omega) | rfl | exact sub_eq rfl (by rw [fB_succ hA2]; simp [gV, gS, gN, gW, gK, *] <;> omega) | exact sub_eq rfl (by rw [fH_succ hB2]; simp [*])), (by first | exact sub_int rfl (by omega) | rfl | exact sub_eq rfl (by rw [fB_succ hA2]; simp [gV, gS, gN, gW, gK, *] <;> omega) | exact sub_eq rfl (by rw [fH_succ hB2]; simp [*])), trivial⟩, rfl⟩
      refine a_op rfl (o_ntf rfl) ?_
      refine a_op rfl (o_pkt rfl rfl) ?_
      refine a_op rfl (o_pkf rfl rfl) ?_
      refine a_op rfl (o_mv rfl) ?_
      refine a_off rfl ?_
      refine a_off rfl ?_
      refine a_off rfl ?_
      refine a_off rfl ?_
      refine a_off rfl ?_
      refine a_op rfl (o_pkt rfl rfl) ?_
      refine a_op rfl (o_as rfl) ?_
      refine a_nil ?_
      refine tq_n ?_
      refine w_true rfl ?_
      refine w_reg (l := r9_38.toList) rfl r9_38_ok ?_
      refine a_op rfl (o_as rfl) ?_
      refine a_nil ?_
      refine bq_n ?_
      refine tq_n ?_
      refine awp_seq ?_
      refine w_reg (l := r9_39.toList) rfl r9_39_ok ?_
      refine a_op rfl ((by first | exact o_ldg tg30 tn30 rfl rfl | exact o_ldpg tg30 tn30 rfl rfl rfl rfl)) ?_
      refine a_op rfl (o_mv rfl) ?_
      refine a_op rfl (o_mv rfl) ?_
      refine a_op rfl (o_mv rfl) ?_
      refine a_op rfl (o_mv rfl) ?_
      refine a_pure rfl rfl rfl cb14 (lstat_ok _ _ _ cel_nilS cel_nilS cel_nilS _ _ (by omega) _ _ (by omega) (hRx) _ _ (by omega) _ _) ?_
      refine a_op rfl (o_mv rfl) ?_
      refine a_if rfl (o_ne rfl rfl) (fun h111 => ?_) (fun h112 => ?_)
      · rw [hlaw] at h111; simp [wantF, *] at h111
      refine a_nil ?_
      refine tq_n ?_
      refine w_false rfl ?_
      refine awp_skip ?_
      refine bq_n ?_
      refine tq_n ?_
      refine w_reg (l := r9_11.toList) rfl r9_11_ok ?_
      refine a_op rfl (o_mv rfl) ?_
      refine a_op rfl (o_add rfl rfl (by simp only [klo, khi]; omega)) ?_
      refine a_op rfl (o_as rfl) ?_
      refine a_nil ?_
      refine tq_n ?_
      exact ⟨p + 1, ⟨⟨by omega, by omega⟩, by omega⟩, ⟨(by first | exact sub_int rfl (by omega) | rfl | exact sub_eq rfl (by rw [fB_succ hA2]; simp [gV, gS, gN, gW, gK, *] <;> omega) | exact sub_eq rfl (by rw [fH_succ hB2]; simp [*])), (by first | exact sub_int rfl (by omega) | rfl | exact sub_eq rfl (by rw [fB_succ hA2]; simp [gV, gS, gN, gW, gK, *] <;> omega) | exact sub_eq rfl (by rw [fH_succ hB2]; simp [*])), (by first | exact sub_int rfl (by omega) | rfl | exact sub_eq rfl (by rw [fB_succ hA2]; simp [gV, gS, gN, gW, gK, *] <;> omega) | exact sub_eq rfl (by rw [fH_succ hB2]; simp [*])), (by first | exact sub_int rfl (by omega) | rfl | exact sub_eq rfl (by rw [fB_succ hA2]; simp [gV, gS, gN, gW, gK, *] <;> omega) | exact sub_eq rfl (by rw [fH_succ hB2]; simp [*])), (by first | exact sub_int rfl (by omega) | rfl | exact sub_eq rfl (by rw [fB_succ hA2]; simp [gV, gS, gN, gW, gK, *] <;> omega) | exact sub_eq rfl (by rw [fH_succ hB2]; simp [*])), (by first | exact sub_int rfl (by omega) | rfl | exact sub_eq rfl (by rw [fB_succ hA2]; simp [gV, gS, gN, gW, gK, *] <;> omega) | exact sub_eq rfl (by rw [fH_succ hB2]; simp [*])), trivial⟩, rfl⟩
    refine a_op rfl (o_mv rfl) ?_
    refine a_off rfl ?_
    refine a_off rfl ?_
    refine a_op rfl (o_pkf rfl rfl) ?_
    refine a_op rfl (o_pkf rfl rfl) ?_
    refine a_op rfl (o_mv rfl) ?_
    refine a_op rfl (o_mv rfl) ?_
    refine a_if rfl (o_gt rfl rfl) (fun h113 => ?_) (fun h114 => ?_)
    · refine a_op rfl (o_mv rfl) ?_
      refine a_ifb rfl (o_mv rfl) (fun h115 => ?_) (fun h116 => ?_)
      · refine a_op rfl (o_pkt rfl rfl) ?_
        refine a_op rfl (o_pkf rfl rfl) ?_
        refine a_op rfl (o_as rfl) ?_
        refine a_nil ?_
        refine tq_n ?_
        refine w_true rfl ?_
        refine w_reg (l := r9_38.toList) rfl r9_38_ok ?_
        refine a_op rfl (o_as rfl) ?_
        refine a_nil ?_
        refine bq_n ?_
        refine tq_n ?_
        refine awp_seq ?_
        refine w_reg (l := r9_39.toList) rfl r9_39_ok ?_
        refine a_op rfl ((by first | exact o_ldg tg30 tn30 rfl rfl | exact o_ldpg tg30 tn30 rfl rfl rfl rfl)) ?_
        refine a_op rfl (o_mv rfl) ?_
        refine a_op rfl (o_mv rfl) ?_
        refine a_op rfl (o_mv rfl) ?_
        refine a_op rfl (o_mv rfl) ?_
        refine a_pure rfl rfl rfl cb14 (lstat_ok _ _ _ cel_nilS cel_nilS cel_nilS _ _ (by omega) _ _ (by omega) (hRx) _ _ (by omega) _ _) ?_
        refine a_op rfl (o_mv rfl) ?_
        refine a_if rfl (o_ne rfl rfl) (fun h117 => ?_) (fun h118 => ?_)
        · rw [hlaw] at h117; simp [wantF, *] at h117
        refine a_nil ?_
        refine tq_n ?_
        refine w_false rfl ?_
        refine awp_skip ?_
        refine bq_n ?_
        refine tq_n ?_
        refine w_reg (l := r9_11.toList) rfl r9_11_ok ?_
        refine a_op rfl (o_mv rfl) ?_
        refine a_op rfl (o_add rfl rfl (by simp only [klo, khi]; omega)) ?_
        refine a_op rfl (o_as rfl) ?_
        refine a_nil ?_
        refine tq_n ?_
        exact ⟨p + 1, ⟨⟨by omega, by omega⟩, by omega⟩, ⟨(by first | exact sub_int rfl (by omega) | rfl | exact sub_eq rfl (by rw [fB_succ hA2]; simp [gV, gS, gN, gW, gK, *] <;> omega) | exact sub_eq rfl (by rw [fH_succ hB2]; simp [*])), (by first | exact sub_int rfl (by omega) | rfl | exact sub_eq rfl (by rw [fB_succ hA2]; simp [gV, gS, gN, gW, gK, *] <;> omega) | exact sub_eq rfl (by rw [fH_succ hB2]; simp [*])), (by first | exact sub_int rfl (by omega) | rfl | exact sub_eq rfl (by rw [fB_succ hA2]; simp [gV, gS, gN, gW, gK, *] <;> omega) | exact sub_eq rfl (by rw [fH_succ hB2]; simp [*])), (by first | exact sub_int rfl (by omega) | rfl | exact sub_eq rfl (by rw [fB_succ hA2]; simp [gV, gS, gN, gW, gK, *] <;> omega) | exact sub_eq rfl (by rw [fH_succ hB2]; simp [*])), (by first | exact sub_int rfl (by omega) | rfl | exact sub_eq rfl (by rw [fB_succ hA2]; simp [gV, gS, gN, gW, gK, *] <;> omega) | exact sub_eq rfl (by rw [fH_succ hB2]; simp [*])), (by first | exact sub_int rfl (by omega) | rfl | exact sub_eq rfl (by rw [fB_succ hA2]; simp [gV, gS, gN, gW, gK, *] <;> omega) | exact sub_eq rfl (by rw [fH_succ hB2]; simp [*])), trivial⟩, rfl⟩
      refine a_op rfl (o_pkt rfl rfl) ?_
      refine a_op rfl (o_pkf rfl rfl) ?_
      refine a_op rfl (o_as rfl) ?_
      refine a_nil ?_
      refine tq_n ?_
      refine w_false rfl ?_
      refine awp_skip ?_
      refine bq_n ?_
      refine tq_n ?_
      refine awp_seq ?_
      refine w_reg (l := r9_39.toList) rfl r9_39_ok ?_
      refine a_op rfl ((by first | exact o_ldg tg30 tn30 rfl rfl | exact o_ldpg tg30 tn30 rfl rfl rfl rfl)) ?_
      refine a_op rfl (o_mv rfl) ?_
      refine a_op rfl (o_mv rfl) ?_
      refine a_op rfl (o_mv rfl) ?_
      refine a_op rfl (o_mv rfl) ?_
      refine a_pure rfl rfl rfl cb14 (lstat_ok _ _ _ cel_nilS cel_nilS cel_nilS _ _ (by omega) _ _ (by omega) (hRx) _ _ (by omega) _ _) ?_
      refine a_op rfl (o_mv rfl) ?_
      refine a_if rfl (o_ne rfl rfl) (fun h119 => ?_) (fun h120 => ?_)
      · rw [hlaw] at h119; simp [wantF, *] at h119
      refine a_nil ?_
      refine tq_n ?_
      refine w_false rfl ?_
      refine awp_skip ?_
      refine bq_n ?_
      refine tq_n ?_
      refine w_reg (l := r9_11.toList) rfl r9_11_ok ?_
      refine a_op rfl (o_mv rfl) ?_
      refine a_op rfl (o_add rfl rfl (by simp only [klo, khi]; omega)) ?_
      refine a_op rfl (o_as rfl) ?_
      refine a_nil ?_
      refine tq_n ?_
      exact ⟨p + 1, ⟨⟨by omega, by omega⟩, by omega⟩, ⟨(by first | exact sub_int rfl (by omega) | rfl | exact sub_eq rfl (by rw [fB_succ hA2]; simp [gV, gS, gN, gW, gK, *] <;> omega) | exact sub_eq rfl (by rw [fH_succ hB2]; simp [*])), (by first | exact sub_int rfl (by omega) | rfl | exact sub_eq rfl (by rw [fB_succ hA2]; simp [gV, gS, gN, gW, gK, *] <;> omega) | exact sub_eq rfl (by rw [fH_succ hB2]; simp [*])), (by first | exact sub_int rfl (by omega) | rfl | exact sub_eq rfl (by rw [fB_succ hA2]; simp [gV, gS, gN, gW, gK, *] <;> omega) | exact sub_eq rfl (by rw [fH_succ hB2]; simp [*])), (by first | exact sub_int rfl (by omega) | rfl | exact sub_eq rfl (by rw [fB_succ hA2]; simp [gV, gS, gN, gW, gK, *] <;> omega) | exact sub_eq rfl (by rw [fH_succ hB2]; simp [*])), (by first | exact sub_int rfl (by omega) | rfl | exact sub_eq rfl (by rw [fB_succ hA2]; simp [gV, gS, gN, gW, gK, *] <;> omega) | exact sub_eq rfl (by rw [fH_succ hB2]; simp [*])), (by first | exact sub_int rfl (by omega) | rfl | exact sub_eq rfl (by rw [fB_succ hA2]; simp [gV, gS, gN, gW, gK, *] <;> omega) | exact sub_eq rfl (by rw [fH_succ hB2]; simp [*])), trivial⟩, rfl⟩
    refine a_op rfl (o_mv rfl) ?_
    refine a_off rfl ?_
    refine a_op rfl (o_pkf rfl rfl) ?_
    refine a_op rfl (o_pkf rfl rfl) ?_
    refine a_op rfl (o_as rfl) ?_
    refine a_nil ?_
    refine tq_n ?_
    refine w_false rfl ?_
    refine awp_skip ?_
    refine bq_n ?_
    refine tq_n ?_
    refine awp_seq ?_
    refine w_reg (l := r9_39.toList) rfl r9_39_ok ?_
    refine a_op rfl ((by first | exact o_ldg tg30 tn30 rfl rfl | exact o_ldpg tg30 tn30 rfl rfl rfl rfl)) ?_
    refine a_op rfl (o_mv rfl) ?_
    refine a_op rfl (o_mv rfl) ?_
    refine a_op rfl (o_mv rfl) ?_
    refine a_op rfl (o_mv rfl) ?_
    refine a_pure rfl rfl rfl cb14 (lstat_ok _ _ _ cel_nilS cel_nilS cel_nilS _ _ (by omega) _ _ (by omega) (hRx) _ _ (by omega) _ _) ?_
    refine a_op rfl (o_mv rfl) ?_
    refine a_if rfl (o_ne rfl rfl) (fun h121 => ?_) (fun h122 => ?_)
    · rw [hlaw] at h121; simp [wantF, *] at h121
    refine a_nil ?_
    refine tq_n ?_
    refine w_false rfl ?_
    refine awp_skip ?_
    refine bq_n ?_
    refine tq_n ?_
    refine w_reg (l := r9_11.toList) rfl r9_11_ok ?_
    refine a_op rfl (o_mv rfl) ?_
    refine a_op rfl (o_add rfl rfl (by simp only [klo, khi]; omega)) ?_
    refine a_op rfl (o_as rfl) ?_
    refine a_nil ?_
    refine tq_n ?_
    exact ⟨p + 1, ⟨⟨by omega, by omega⟩, by omega⟩, ⟨(by first | exact sub_int rfl (by omega) | rfl | exact sub_eq rfl (by rw [fB_succ hA2]; simp [gV, gS, gN, gW, gK, *] <;> omega) | exact sub_eq rfl (by rw [fH_succ hB2]; simp [*])), (by first | exact sub_int rfl (by omega) | rfl | exact sub_eq rfl (by rw [fB_succ hA2]; simp [gV, gS, gN, gW, gK, *] <;> omega) | exact sub_eq rfl (by rw [fH_succ hB2]; simp [*])), (by first | exact sub_int rfl (by omega) | rfl | exact sub_eq rfl (by rw [fB_succ hA2]; simp [gV, gS, gN, gW, gK, *] <;> omega) | exact sub_eq rfl (by rw [fH_succ hB2]; simp [*])), (by first | exact sub_int rfl (by omega) | rfl | exact sub_eq rfl (by rw [fB_succ hA2]; simp [gV, gS, gN, gW, gK, *] <;> omega) | exact sub_eq rfl (by rw [fH_succ hB2]; simp [*])), (by first | exact sub_int rfl (by omega) | rfl | exact sub_eq rfl (by rw [fB_succ hA2]; simp [gV, gS, gN, gW, gK, *] <;> omega) | exact sub_eq rfl (by rw [fH_succ hB2]; simp [*])), (by first | exact sub_int rfl (by omega) | rfl | exact sub_eq rfl (by rw [fB_succ hA2]; simp [gV, gS, gN, gW, gK, *] <;> omega) | exact sub_eq rfl (by rw [fH_succ hB2]; simp [*])), trivial⟩, rfl⟩
  refine a_nil ?_
  refine tq_n ?_
  refine w_false rfl ?_
  refine awp_exit ?_
  refine tq_x ?_
  refine tq_x ?_
  refine bq_hit ?_
  refine tq_n ?_
  refine awp_seq ?_
  refine w_reg (l := r9_41.toList) rfl r9_41_ok ?_
  refine a_pure rfl rfl rfl cb15 (awake_ok) ?_
  refine a_op rfl (o_as rfl) ?_
  refine a_nil ?_
  refine tq_n ?_
  refine awp_ret ?_
  refine r_one rfl ⟨rfl, trivial⟩ ?_
  exact rs_pur (by simp) rfl
end Go.Ab.D
