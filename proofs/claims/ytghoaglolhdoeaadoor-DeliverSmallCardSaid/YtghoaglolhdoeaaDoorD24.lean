/- What functions of this program compute, and the laws of what they compute, under the bounds on lengths that each contract states. -/
import Derived.Test.YtghoaglolhdoeaaDoorD23
set_option linter.unusedSimpArgs false
set_option linter.unusedVariables false
namespace Go.Ab.D
open Go Go.Ab Go.Proofs
def endsL : List Int := [101, 131, 228, 229, 301, 1130, 1231]
def numsL : List Int := [-1, 0, 1, 100, 101, 131, 132, 200, 229, 230, 1231, 1232, 1301, 730483, 730484, 730485]
def holsL : List Int := [0, 101, 730484]
theorem ends_bd : ∀ x ∈ endsL, -1 ≤ x ∧ x ≤ 730485 := by decide
theorem nums_bd : ∀ x ∈ numsL, -1 ≤ x ∧ x ≤ 730485 := by decide
def EXV : AV := refAV nilS nilS nilS true exPts
theorem same1 (r : RuleR) (hr : r.ok) (hol : List Int) (hl : hol.length ≤ 10) (n day : Int) : PureCall Tryd.prog GL 30 [EXV, .sl 5 true [ruleAV r], .sl 1 true (hol.map intAV), .raw (.int .i64 n), .raw (.int .i64 day)] (.raw (.bool true)) :=
  same_ok nilS nilS nilS cel_nilS cel_nilS cel_nilS true exPts (by decide) true [r] (by simp) (fun x hx => by rw [List.mem_singleton.1 hx]; exact hr) true hol (by omega) n day
theorem valid1 (r : RuleR) (hr : r.ok) : PureCall Tryd.prog GL 26 [EXV, .sl 5 true [ruleAV r]] (.tup [.raw (.int .i64 (validF exPts [r]).1), .raw (.int .i64 (validF exPts [r]).2)]) :=
  Valid_ok nilS nilS nilS cel_nilS cel_nilS cel_nilS true exPts (by decide) true [r] (by simp) (fun x hx => by rw [List.mem_singleton.1 hx]; exact hr)
theorem rvalid1 (r : RuleR) (hr : r.ok) : PureCall Tryd.prog GL 25 [EXV, .sl 5 true [ruleAV r]] (.tup [.raw (.int .i64 (validF exPts [r]).1), .raw (.int .i64 (validF exPts [r]).2)]) :=
  rValid_ok nilS nilS nilS cel_nilS cel_nilS cel_nilS true exPts (by decide) true [r] (by simp) (fun x hx => by rw [List.mem_singleton.1 hx]; exact hr)

noncomputable def r8_0 : Array Oper := opsAt Tryd.f8 [0]
theorem r8_0_ok : dstOk 165 r8_0.toList = true ∧ r8_0.toList.all (fun o => noDefer o.op) = true := by decide +kernel
noncomputable def r8_1 : Array Oper := opsAt Tryd.f8 [1, 0]
theorem r8_1_ok : dstOk 165 r8_1.toList = true ∧ r8_1.toList.all (fun o => noDefer o.op) = true := by decide +kernel
noncomputable def r8_2 : Array Oper := opsAt Tryd.f8 [1, 1, 0]
theorem r8_2_ok : dstOk 165 r8_2.toList = true ∧ r8_2.toList.all (fun o => noDefer o.op) = true := by decide +kernel
noncomputable def r8_3 : Array Oper := opsAt Tryd.f8 [1, 1, 1, 0, 0]
theorem r8_3_ok : dstOk 165 r8_3.toList = true ∧ r8_3.toList.all (fun o => noDefer o.op) = true := by decide +kernel
noncomputable def r8_4 : Array Oper := opsAt Tryd.f8 [1, 1, 1, 0, 1, 0, 0, 0]
theorem r8_4_ok : dstOk 165 r8_4.toList = true ∧ r8_4.toList.all (fun o => noDefer o.op) = true := by decide +kernel
noncomputable def r8_5 : Array Oper := opsAt Tryd.f8 [1, 1, 1, 0, 1, 0, 0, 1, 1, 0, 0, 0]
theorem r8_5_ok : dstOk 165 r8_5.toList = true ∧ r8_5.toList.all (fun o => noDefer o.op) = true := by decide +kernel
noncomputable def r8_6 : Array Oper := opsAt Tryd.f8 [1, 1, 1, 0, 1, 0, 0, 1, 1, 0, 0, 1, 0]
theorem r8_6_ok : dstOk 165 r8_6.toList = true ∧ r8_6.toList.all (fun o => noDefer o.op) = true := by decide +kernel
noncomputable def r8_7 : Array Oper := opsAt Tryd.f8 [1, 1, 1, 0, 1, 0, 0, 1, 1, 0, 0, 1, 1, 0, 0, 0]
theorem r8_7_ok : dstOk 165 r8_7.toList = true ∧ r8_7.toList.all (fun o => noDefer o.op) = true := by decide +kernel
noncomputable def r8_8 : Array Oper := opsAt Tryd.f8 [1, 1, 1, 0, 1, 0, 0, 1, 1, 0, 0, 1, 1, 0, 0, 1, 1, 0, 0, 0]
theorem r8_8_ok : dstOk 165 r8_8.toList = true ∧ r8_8.toList.all (fun o => noDefer o.op) = true := by decide +kernel
noncomputable def r8_9 : Array Oper := opsAt Tryd.f8 [1, 1, 1, 0, 1, 0, 0, 1, 1, 0, 0, 1, 1, 0, 0, 1, 1, 0, 0, 1, 0]
theorem r8_9_ok : dstOk 165 r8_9.toList = true ∧ r8_9.toList.all (fun o => noDefer o.op) = true := by decide +kernel
noncomputable def r8_10 : Array Oper := opsAt Tryd.f8 [1, 1, 1, 0, 1, 0, 0, 1, 1, 0, 0, 1, 1, 0, 0, 1, 1, 0, 0, 1, 1, 0]
theorem r8_10_ok : dstOk 165 r8_10.toList = true ∧ r8_10.toList.all (fun o => noDefer o.op) = true := by decide +kernel
noncomputable def r8_11 : Array Oper := opsAt Tryd.f8 [1, 1, 1, 0, 1, 0, 0, 1, 1, 0, 0, 1, 1, 0, 0, 1, 1, 0, 0, 1, 1, 1, 0, 0, 0, 0]
theorem r8_11_ok : dstOk 165 r8_11.toList = true ∧ r8_11.toList.all (fun o => noDefer o.op) = true := by decide +kernel
noncomputable def r8_13 : Array Oper := opsAt Tryd.f8 [1, 1, 1, 0, 1, 0, 0, 1, 1, 0, 0, 1, 1, 0, 0, 1, 1, 0, 0, 1, 1, 1, 0, 0, 1, 0, 0, 0]
theorem r8_13_ok : dstOk 165 r8_13.toList = true ∧ r8_13.toList.all (fun o => noDefer o.op) = true := by decide +kernel
noncomputable def r8_14 : Array Oper := opsAt Tryd.f8 [1, 1, 1, 0, 1, 0, 0, 1, 1, 0, 0, 1, 1, 0, 0, 1, 1, 0, 0, 1, 1, 1, 0, 0, 1, 0, 0, 1, 0, 0]
theorem r8_14_ok : dstOk 165 r8_14.toList = true ∧ r8_14.toList.all (fun o => noDefer o.op) = true := by decide +kernel
noncomputable def r8_12 : Array Oper := opsAt Tryd.f8 [1, 1, 1, 0, 1, 0, 0, 1, 1, 0, 0, 1, 1, 0, 0, 1, 1, 0, 0, 1, 1, 1, 0, 0, 1, 1]
theorem r8_12_ok : dstOk 165 r8_12.toList = true ∧ r8_12.toList.all (fun o => noDefer o.op) = true := by decide +kernel
noncomputable def b8_0 : Code := (.seq (.seq (.region 11 r8_11 false) (.cond (.tmp 48) .skip (.exit 4))) (.seq (.block 5 (.seq (.region 13 r8_13 false) (.cond (.tmp 55) (.seq (.region 14 r8_14 false) .ret) .skip))) (.region 12 r8_12 false)))
noncomputable def r8_15 : Array Oper := opsAt Tryd.f8 [1, 1, 1, 0, 1, 0, 0, 1, 1, 0, 0, 1, 1, 0, 0, 1, 1, 1]
theorem r8_15_ok : dstOk 165 r8_15.toList = true ∧ r8_15.toList.all (fun o => noDefer o.op) = true := by decide +kernel
noncomputable def b8_1 : Code := (.seq (.region 7 r8_7 false) (.seq (.cond (.tmp 40) .skip (.exit 2)) (.seq (.block 3 (.seq (.region 8 r8_8 false) (.seq (.region 9 r8_9 false) (.seq (.region 10 r8_10 false) (.block 4 (.loop b8_0)))))) (.region 15 r8_15 false))))
noncomputable def r8_16 : Array Oper := opsAt Tryd.f8 [1, 1, 1, 0, 1, 0, 0, 1, 1, 1]
theorem r8_16_ok : dstOk 165 r8_16.toList = true ∧ r8_16.toList.all (fun o => noDefer o.op) = true := by decide +kernel
noncomputable def b8_2 : Code := (.seq (.region 4 r8_4 false) (.seq (.cond (.tmp 34) .skip (.exit 0)) (.seq (.block 1 (.seq (.region 5 r8_5 false) (.seq (.region 6 r8_6 false) (.block 2 (.loop b8_1))))) (.region 16 r8_16 false))))
noncomputable def r8_17 : Array Oper := opsAt Tryd.f8 [1, 1, 1, 1, 0, 0]
theorem r8_17_ok : dstOk 165 r8_17.toList = true ∧ r8_17.toList.all (fun o => noDefer o.op) = true := by decide +kernel
noncomputable def r8_18 : Array Oper := opsAt Tryd.f8 [1, 1, 1, 1, 0, 1, 0, 0, 0, 0]
theorem r8_18_ok : dstOk 165 r8_18.toList = true ∧ r8_18.toList.all (fun o => noDefer o.op) = true := by decide +kernel
noncomputable def r8_20 : Array Oper := opsAt Tryd.f8 [1, 1, 1, 1, 0, 1, 0, 0, 1, 0, 0, 0]
theorem r8_20_ok : dstOk 165 r8_20.toList = true ∧ r8_20.toList.all (fun o => noDefer o.op) = true := by decide +kernel
noncomputable def r8_21 : Array Oper := opsAt Tryd.f8 [1, 1, 1, 1, 0, 1, 0, 0, 1, 0, 0, 1, 0]
theorem r8_21_ok : dstOk 165 r8_21.toList = true ∧ r8_21.toList.all (fun o => noDefer o.op) = true := by decide +kernel
noncomputable def r8_22 : Array Oper := opsAt Tryd.f8 [1, 1, 1, 1, 0, 1, 0, 0, 1, 0, 0, 1, 1, 0]
theorem r8_22_ok : dstOk 165 r8_22.toList = true ∧ r8_22.toList.all (fun o => noDefer o.op) = true := by decide +kernel
noncomputable def r8_23 : Array Oper := opsAt Tryd.f8 [1, 1, 1, 1, 0, 1, 0, 0, 1, 0, 0, 1, 1, 1, 0, 0]
theorem r8_23_ok : dstOk 165 r8_23.toList = true ∧ r8_23.toList.all (fun o => noDefer o.op) = true := by decide +kernel
noncomputable def r8_24 : Array Oper := opsAt Tryd.f8 [1, 1, 1, 1, 0, 1, 0, 0, 1, 0, 0, 1, 1, 1, 0, 1, 0, 0]
theorem r8_24_ok : dstOk 165 r8_24.toList = true ∧ r8_24.toList.all (fun o => noDefer o.op) = true := by decide +kernel
noncomputable def r8_25 : Array Oper := opsAt Tryd.f8 [1, 1, 1, 1, 0, 1, 0, 0, 1, 0, 0, 1, 1, 1, 1, 0]
theorem r8_25_ok : dstOk 165 r8_25.toList = true ∧ r8_25.toList.all (fun o => noDefer o.op) = true := by decide +kernel
noncomputable def r8_26 : Array Oper := opsAt Tryd.f8 [1, 1, 1, 1, 0, 1, 0, 0, 1, 0, 0, 1, 1, 1, 1, 1, 0, 0, 0, 0]
theorem r8_26_ok : dstOk 165 r8_26.toList = true ∧ r8_26.toList.all (fun o => noDefer o.op) = true := by decide +kernel
noncomputable def r8_28 : Array Oper := opsAt Tryd.f8 [1, 1, 1, 1, 0, 1, 0, 0, 1, 0, 0, 1, 1, 1, 1, 1, 0, 0, 1, 0, 0, 0]
theorem r8_28_ok : dstOk 165 r8_28.toList = true ∧ r8_28.toList.all (fun o => noDefer o.op) = true := by decide +kernel
noncomputable def r8_29 : Array Oper := opsAt Tryd.f8 [1, 1, 1, 1, 0, 1, 0, 0, 1, 0, 0, 1, 1, 1, 1, 1, 0, 0, 1, 0, 0, 1, 0, 0]
theorem r8_29_ok : dstOk 165 r8_29.toList = true ∧ r8_29.toList.all (fun o => noDefer o.op) = true := by decide +kernel
noncomputable def r8_27 : Array Oper := opsAt Tryd.f8 [1, 1, 1, 1, 0, 1, 0, 0, 1, 0, 0, 1, 1, 1, 1, 1, 0, 0, 1, 1]
theorem r8_27_ok : dstOk 165 r8_27.toList = true ∧ r8_27.toList.all (fun o => noDefer o.op) = true := by decide +kernel
noncomputable def b8_3 : Code := (.seq (.seq (.region 26 r8_26 false) (.cond (.tmp 91) .skip (.exit 8))) (.seq (.block 9 (.seq (.region 28 r8_28 false) (.cond (.tmp 98) (.seq (.region 29 r8_29 false) .ret) .skip))) (.region 27 r8_27 false)))
noncomputable def r8_19 : Array Oper := opsAt Tryd.f8 [1, 1, 1, 1, 0, 1, 0, 0, 1, 1]
theorem r8_19_ok : dstOk 165 r8_19.toList = true ∧ r8_19.toList.all (fun o => noDefer o.op) = true := by decide +kernel
noncomputable def b8_4 : Code := (.seq (.seq (.region 18 r8_18 false) (.cond (.tmp 59) .skip (.exit 6))) (.seq (.block 7 (.seq (.region 20 r8_20 false) (.seq (.region 21 r8_21 false) (.seq (.region 22 r8_22 false) (.seq (.seq (.region 23 r8_23 false) (.cond (.tmp 85) (.seq (.region 24 r8_24 false) .ret) .skip)) (.seq (.region 25 r8_25 false) (.block 8 (.loop b8_3)))))))) (.region 19 r8_19 false)))
noncomputable def r8_30 : Array Oper := opsAt Tryd.f8 [1, 1, 1, 1, 1, 0]
theorem r8_30_ok : dstOk 165 r8_30.toList = true ∧ r8_30.toList.all (fun o => noDefer o.op) = true := by decide +kernel
noncomputable def r8_31 : Array Oper := opsAt Tryd.f8 [1, 1, 1, 1, 1, 1, 0, 0]
theorem r8_31_ok : dstOk 165 r8_31.toList = true ∧ r8_31.toList.all (fun o => noDefer o.op) = true := by decide +kernel
noncomputable def r8_32 : Array Oper := opsAt Tryd.f8 [1, 1, 1, 1, 1, 1, 0, 1, 0, 0, 0]
theorem r8_32_ok : dstOk 165 r8_32.toList = true ∧ r8_32.toList.all (fun o => noDefer o.op) = true := by decide +kernel
noncomputable def r8_33 : Array Oper := opsAt Tryd.f8 [1, 1, 1, 1, 1, 1, 0, 1, 0, 0, 1, 1, 0, 0, 0]
theorem r8_33_ok : dstOk 165 r8_33.toList = true ∧ r8_33.toList.all (fun o => noDefer o.op) = true := by decide +kernel
noncomputable def r8_34 : Array Oper := opsAt Tryd.f8 [1, 1, 1, 1, 1, 1, 0, 1, 0, 0, 1, 1, 0, 0, 1, 0]
theorem r8_34_ok : dstOk 165 r8_34.toList = true ∧ r8_34.toList.all (fun o => noDefer o.op) = true := by decide +kernel
noncomputable def r8_35 : Array Oper := opsAt Tryd.f8 [1, 1, 1, 1, 1, 1, 0, 1, 0, 0, 1, 1, 0, 0, 1, 1, 0, 0, 0]
theorem r8_35_ok : dstOk 165 r8_35.toList = true ∧ r8_35.toList.all (fun o => noDefer o.op) = true := by decide +kernel
noncomputable def r8_36 : Array Oper := opsAt Tryd.f8 [1, 1, 1, 1, 1, 1, 0, 1, 0, 0, 1, 1, 0, 0, 1, 1, 0, 0, 1, 1, 0, 0, 0]
theorem r8_36_ok : dstOk 165 r8_36.toList = true ∧ r8_36.toList.all (fun o => noDefer o.op) = true := by decide +kernel
noncomputable def r8_37 : Array Oper := opsAt Tryd.f8 [1, 1, 1, 1, 1, 1, 0, 1, 0, 0, 1, 1, 0, 0, 1, 1, 0, 0, 1, 1, 0, 0, 1, 0]
theorem r8_37_ok : dstOk 165 r8_37.toList = true ∧ r8_37.toList.all (fun o => noDefer o.op) = true := by decide +kernel
noncomputable def r8_38 : Array Oper := opsAt Tryd.f8 [1, 1, 1, 1, 1, 1, 0, 1, 0, 0, 1, 1, 0, 0, 1, 1, 0, 0, 1, 1, 0, 0, 1, 1, 0, 0, 0, 0]
theorem r8_38_ok : dstOk 165 r8_38.toList = true ∧ r8_38.toList.all (fun o => noDefer o.op) = true := by decide +kernel
noncomputable def r8_40 : Array Oper := opsAt Tryd.f8 [1, 1, 1, 1, 1, 1, 0, 1, 0, 0, 1, 1, 0, 0, 1, 1, 0, 0, 1, 1, 0, 0, 1, 1, 0, 0, 1, 0, 0, 0]
theorem r8_40_ok : dstOk 165 r8_40.toList = true ∧ r8_40.toList.all (fun o => noDefer o.op) = true := by decide +kernel
noncomputable def r8_41 : Array Oper := opsAt Tryd.f8 [1, 1, 1, 1, 1, 1, 0, 1, 0, 0, 1, 1, 0, 0, 1, 1, 0, 0, 1, 1, 0, 0, 1, 1, 0, 0, 1, 0, 0, 1, 0]
theorem r8_41_ok : dstOk 165 r8_41.toList = true ∧ r8_41.toList.all (fun o => noDefer o.op) = true := by decide +kernel
noncomputable def r8_42 : Array Oper := opsAt Tryd.f8 [1, 1, 1, 1, 1, 1, 0, 1, 0, 0, 1, 1, 0, 0, 1, 1, 0, 0, 1, 1, 0, 0, 1, 1, 0, 0, 1, 0, 0, 1, 1, 0]
theorem r8_42_ok : dstOk 165 r8_42.toList = true ∧ r8_42.toList.all (fun o => noDefer o.op) = true := by decide +kernel
noncomputable def r8_43 : Array Oper := opsAt Tryd.f8 [1, 1, 1, 1, 1, 1, 0, 1, 0, 0, 1, 1, 0, 0, 1, 1, 0, 0, 1, 1, 0, 0, 1, 1, 0, 0, 1, 0, 0, 1, 1, 1, 0, 0]
theorem r8_43_ok : dstOk 165 r8_43.toList = true ∧ r8_43.toList.all (fun o => noDefer o.op) = true := by decide +kernel
noncomputable def r8_44 : Array Oper := opsAt Tryd.f8 [1, 1, 1, 1, 1, 1, 0, 1, 0, 0, 1, 1, 0, 0, 1, 1, 0, 0, 1, 1, 0, 0, 1, 1, 0, 0, 1, 0, 0, 1, 1, 1, 0, 1, 0, 0]
theorem r8_44_ok : dstOk 165 r8_44.toList = true ∧ r8_44.toList.all (fun o => noDefer o.op) = true := by decide +kernel
noncomputable def r8_45 : Array Oper := opsAt Tryd.f8 [1, 1, 1, 1, 1, 1, 0, 1, 0, 0, 1, 1, 0, 0, 1, 1, 0, 0, 1, 1, 0, 0, 1, 1, 0, 0, 1, 0, 0, 1, 1, 1, 1, 0]
theorem r8_45_ok : dstOk 165 r8_45.toList = true ∧ r8_45.toList.all (fun o => noDefer o.op) = true := by decide +kernel
noncomputable def r8_46 : Array Oper := opsAt Tryd.f8 [1, 1, 1, 1, 1, 1, 0, 1, 0, 0, 1, 1, 0, 0, 1, 1, 0, 0, 1, 1, 0, 0, 1, 1, 0, 0, 1, 0, 0, 1, 1, 1, 1, 1, 0, 0, 0]
theorem r8_46_ok : dstOk 165 r8_46.toList = true ∧ r8_46.toList.all (fun o => noDefer o.op) = true := by decide +kernel
noncomputable def r8_47 : Array Oper := opsAt Tryd.f8 [1, 1, 1, 1, 1, 1, 0, 1, 0, 0, 1, 1, 0, 0, 1, 1, 0, 0, 1, 1, 0, 0, 1, 1, 0, 0, 1, 0, 0, 1, 1, 1, 1, 1, 0, 0, 1, 1, 0, 0, 0]
theorem r8_47_ok : dstOk 165 r8_47.toList = true ∧ r8_47.toList.all (fun o => noDefer o.op) = true := by decide +kernel
noncomputable def r8_48 : Array Oper := opsAt Tryd.f8 [1, 1, 1, 1, 1, 1, 0, 1, 0, 0, 1, 1, 0, 0, 1, 1, 0, 0, 1, 1, 0, 0, 1, 1, 0, 0, 1, 0, 0, 1, 1, 1, 1, 1, 0, 0, 1, 1, 0, 0, 1, 0]
theorem r8_48_ok : dstOk 165 r8_48.toList = true ∧ r8_48.toList.all (fun o => noDefer o.op) = true := by decide +kernel
noncomputable def r8_49 : Array Oper := opsAt Tryd.f8 [1, 1, 1, 1, 1, 1, 0, 1, 0, 0, 1, 1, 0, 0, 1, 1, 0, 0, 1, 1, 0, 0, 1, 1, 0, 0, 1, 0, 0, 1, 1, 1, 1, 1, 0, 0, 1, 1, 0, 0, 1, 1, 0, 0]
theorem r8_49_ok : dstOk 165 r8_49.toList = true ∧ r8_49.toList.all (fun o => noDefer o.op) = true := by decide +kernel
noncomputable def r8_50 : Array Oper := opsAt Tryd.f8 [1, 1, 1, 1, 1, 1, 0, 1, 0, 0, 1, 1, 0, 0, 1, 1, 0, 0, 1, 1, 0, 0, 1, 1, 0, 0, 1, 0, 0, 1, 1, 1, 1, 1, 0, 0, 1, 1, 1]
theorem r8_50_ok : dstOk 165 r8_50.toList = true ∧ r8_50.toList.all (fun o => noDefer o.op) = true := by decide +kernel
noncomputable def b8_5 : Code := (.seq (.region 46 r8_46 false) (.seq (.cond (.tmp 148) .skip (.exit 16)) (.seq (.block 17 (.seq (.region 47 r8_47 false) (.seq (.region 48 r8_48 false) (.cond (.tmp 160) (.seq (.region 49 r8_49 false) .ret) .skip)))) (.region 50 r8_50 false))))
noncomputable def r8_39 : Array Oper := opsAt Tryd.f8 [1, 1, 1, 1, 1, 1, 0, 1, 0, 0, 1, 1, 0, 0, 1, 1, 0, 0, 1, 1, 0, 0, 1, 1, 0, 0, 1, 1]
theorem r8_39_ok : dstOk 165 r8_39.toList = true ∧ r8_39.toList.all (fun o => noDefer o.op) = true := by decide +kernel
noncomputable def b8_6 : Code := (.seq (.seq (.region 38 r8_38 false) (.cond (.tmp 113) .skip (.exit 14))) (.seq (.block 15 (.seq (.region 40 r8_40 false) (.seq (.region 41 r8_41 false) (.seq (.region 42 r8_42 false) (.seq (.seq (.region 43 r8_43 false) (.cond (.tmp 144) (.seq (.region 44 r8_44 false) .ret) .skip)) (.seq (.region 45 r8_45 false) (.block 16 (.loop b8_5)))))))) (.region 39 r8_39 false)))
noncomputable def r8_51 : Array Oper := opsAt Tryd.f8 [1, 1, 1, 1, 1, 1, 0, 1, 0, 0, 1, 1, 0, 0, 1, 1, 0, 0, 1, 1, 1]
theorem r8_51_ok : dstOk 165 r8_51.toList = true ∧ r8_51.toList.all (fun o => noDefer o.op) = true := by decide +kernel
noncomputable def b8_7 : Code := (.seq (.region 35 r8_35 false) (.seq (.cond (.tmp 109) .skip (.exit 12)) (.seq (.block 13 (.seq (.region 36 r8_36 false) (.seq (.region 37 r8_37 false) (.block 14 (.loop b8_6))))) (.region 51 r8_51 false))))
noncomputable def r8_52 : Array Oper := opsAt Tryd.f8 [1, 1, 1, 1, 1, 1, 0, 1, 0, 0, 1, 1, 1]
theorem r8_52_ok : dstOk 165 r8_52.toList = true ∧ r8_52.toList.all (fun o => noDefer o.op) = true := by decide +kernel
noncomputable def b8_8 : Code := (.seq (.region 32 r8_32 false) (.seq (.cond (.tmp 103) .skip (.exit 10)) (.seq (.block 11 (.seq (.region 33 r8_33 false) (.seq (.region 34 r8_34 false) (.block 12 (.loop b8_7))))) (.region 52 r8_52 false))))
noncomputable def r8_53 : Array Oper := opsAt Tryd.f8 [1, 1, 1, 1, 1, 1, 1, 0]
theorem r8_53_ok : dstOk 165 r8_53.toList = true ∧ r8_53.toList.all (fun o => noDefer o.op) = true := by decide +kernel
noncomputable def c8 : Code := (.seq (.region 0 r8_0 false) (.seq (.region 1 r8_1 false) (.seq (.region 2 r8_2 false) (.seq (.seq (.region 3 r8_3 false) (.block 0 (.loop b8_2))) (.seq (.seq (.region 17 r8_17 false) (.block 6 (.loop b8_4))) (.seq (.region 30 r8_30 false) (.seq (.seq (.region 31 r8_31 false) (.block 10 (.loop b8_8))) (.seq (.region 53 r8_53 false) .ret))))))))
theorem body8 : Tryd.f8.body = some c8 := by kernel_rfl
set_option maxHeartbeats 4000000 in
theorem small_ok  : PureCall Tryd.prog GL 8 [] (.raw (.bool true)) := by
  refine pure_of_body Tryd.func8 body8 (Nat.le_of_ble_eq_true rfl) (by simp) (by simp) ?_
  skip
  unfold c8
  have he7 : endsL.length = 7 := rfl
  have hn16 : numsL.length = 16 := rfl
  refine awp_seq ?_
  refine w_reg (l := r8_0.toList) rfl r8_0_ok ?_
  refine a_op rfl (o_as rfl) ?_
  refine a_nil ?_
  refine tq_n ?_
  refine awp_seq ?_
  refine w_reg (l := r8_1.toList) rfl r8_1_ok ?_
  refine a_pure rfl rfl rfl cb29 (example_ok) ?_
  refine a_op rfl (o_al (N := 0) tz30 rfl rfl rfl) ?_
  refine a_op0 rfl (o_st (N := 3) tn30 rfl rfl (by first | exact good_slo rfl | rfl | (simp [AV.goodPart, AV.good, AV.isCell, fresh, nilS, Value.oneCell']; done)) rfl rfl) ?_
  refine a_nil ?_
  refine tq_n ?_
  refine awp_seq ?_
  refine w_reg (l := r8_2.toList) rfl r8_2_ok ?_
  refine a_op rfl (o_bs tE34 (by decide) rfl rfl rfl) ?_
  refine a_op rfl (o_as rfl) ?_
  refine a_nil ?_
  refine tq_n ?_
  refine awp_seq ?_
  refine awp_seq ?_
  refine w_reg (l := r8_3.toList) rfl r8_3_ok ?_
  refine a_op rfl (o_mv rfl) ?_
  refine a_op rfl (o_len rfl rfl (by first | exact List.length_map .. | rfl) tl34) ?_
  refine a_op rfl (o_mv rfl) ?_
  refine a_nil ?_
  refine tq_n ?_
  refine awp_block ?_
  refine w_loop (fun k : Nat => k ≤ endsL.length) (fun iA => [(1, .ptr 0 0), (2, .sl 1 true (endsL.map intAV)), (31, .sl 1 true (endsL.map intAV)), (32, .raw (.int .i64 ((endsL.length : Nat) : Int))), (33, .raw (.int .i64 ((iA : Nat) : Int)))]) (fun _ => [.var [nilS, nilS, nilS, .sl 8 true (exPts.map ptAV)]]) (fun k => endsL.length - k) (0) (by omega) ⟨(by first | exact sub_int rfl (by omega) | rfl), (by first | exact sub_int rfl (by omega) | rfl), (by first | exact sub_int rfl (by omega) | rfl), (by first | exact sub_int rfl (by omega) | rfl), (by first | exact sub_int rfl (by omega) | rfl), trivial⟩ rfl ?_
  intro iA hAp
  unfold b8_2
  refine awp_seq ?_
  refine w_reg (l := r8_4.toList) rfl r8_4_ok ?_
  refine a_if rfl (o_lt rfl rfl) (fun h1 => ?_) (fun h2 => ?_)
  · refine a_nil ?_
    refine tq_n ?_
    refine awp_seq ?_
    refine w_true rfl ?_
    refine awp_skip ?_
    refine tq_n ?_
    refine awp_seq ?_
    refine awp_block ?_
    refine awp_seq ?_
    have hA : iA < endsL.length := by omega
    refine w_reg (l := r8_5.toList) rfl r8_5_ok ?_
    refine a_op rfl (o_ix te34 tn3 rfl rfl rfl (ixm _ _ _ hA)) ?_
    refine a_op rfl ((by first | exact o_ld tg3 rfl rfl | exact o_ldp tg3 rfl rfl rfl rfl)) ?_
    refine a_op rfl (o_as rfl) ?_
    refine a_nil ?_
    refine tq_n ?_
    refine awp_seq ?_
    refine w_reg (l := r8_6.toList) rfl r8_6_ok ?_
    refine a_op rfl (o_mv rfl) ?_
    refine a_op rfl (o_len rfl rfl (by first | exact List.length_map .. | rfl) tl34) ?_
    refine a_op rfl (o_mv rfl) ?_
    refine a_nil ?_
    refine tq_n ?_
    refine awp_block ?_
    refine w_loop (fun k : Nat => k ≤ endsL.length) (fun iB => [(1, .ptr 0 0), (2, .sl 1 true (endsL.map intAV)), (31, .sl 1 true (endsL.map intAV)), (32, .raw (.int .i64 ((endsL.length : Nat) : Int))), (33, .raw (.int .i64 ((iA : Nat) : Int))), (4, intAV (endsL[iA]'hA)), (37, .sl 1 true (endsL.map intAV)), (38, .raw (.int .i64 ((endsL.length : Nat) : Int))), (39, .raw (.int .i64 ((iB : Nat) : Int)))]) (fun _ => [.var [nilS, nilS, nilS, .sl 8 true (exPts.map ptAV)]]) (fun k => endsL.length - k) (0) (by omega) ⟨(by first | exact sub_int rfl (by omega) | rfl), (by first | exact sub_int rfl (by omega) | rfl), (by first | exact sub_int rfl (by omega) | rfl), (by first | exact sub_int rfl (by omega) | rfl), (by first | exact sub_int rfl (by omega) | rfl), (by first | exact sub_int rfl (by omega) | rfl), (by first | exact sub_int rfl (by omega) | rfl), (by first | exact sub_int rfl (by omega) | rfl), (by first | exact sub_int rfl (by omega) | rfl), trivial⟩ rfl ?_
    intro iB hBp
    unfold b8_1
    refine awp_seq ?_
    refine w_reg (l := r8_7.toList) rfl r8_7_ok ?_
    refine a_if rfl (o_lt rfl rfl) (fun h3 => ?_) (fun h4 => ?_)
    · refine a_nil ?_
      refine tq_n ?_
      refine awp_seq ?_
      refine w_true rfl ?_
      refine awp_skip ?_
      refine tq_n ?_
      refine awp_seq ?_
      refine awp_block ?_
      refine awp_seq ?_
      have hB : iB < endsL.length := by omega
      have hb1 := ends_bd _ (List.getElem_mem hA)
      have hb2 := ends_bd _ (List.getElem_mem hB)
      have hok1 : RuleR.ok ⟨11, 1, endsL[iA]'hA, endsL[iB]'hB, 0⟩ := by simp only [RuleR.ok]; omega
      refine w_reg (l := r8_8.toList) rfl r8_8_ok ?_
      refine a_op rfl (o_ix te34 tn3 rfl rfl rfl (ixm _ _ _ hB)) ?_
      refine a_op rfl ((by first | exact o_ld tg3 rfl rfl | exact o_ldp tg3 rfl rfl rfl rfl)) ?_
      refine a_op rfl (o_as rfl) ?_
      refine a_nil ?_
      refine tq_n ?_
      refine awp_seq ?_
      refine w_reg (l := r8_9.toList) rfl r8_9_ok ?_
      refine a_op rfl (o_mv rfl) ?_
      refine a_op rfl (o_mv rfl) ?_
      refine a_op rfl (o_bd tz37 rfl tp37 rfl rfl) ?_
      refine a_op rfl (o_bs tE32 (by decide) rfl rfl rfl) ?_
      refine a_op rfl (o_as rfl) ?_
      refine a_nil ?_
      refine tq_n ?_
      refine awp_seq ?_
      refine w_reg (l := r8_10.toList) rfl r8_10_ok ?_
      refine a_op rfl (o_as rfl) ?_
      refine a_nil ?_
      refine tq_n ?_
      refine awp_block ?_
      refine w_loop (fun k : Int => 730 ≤ k ∧ k ≤ 1461) (fun dK => [(1, .ptr 0 0), (2, .sl 1 true (endsL.map intAV)), (31, .sl 1 true (endsL.map intAV)), (32, .raw (.int .i64 ((endsL.length : Nat) : Int))), (33, .raw (.int .i64 ((iA : Nat) : Int))), (4, intAV (endsL[iA]'hA)), (37, .sl 1 true (endsL.map intAV)), (38, .raw (.int .i64 ((endsL.length : Nat) : Int))), (39, .raw (.int .i64 ((iB : Nat) : Int))), (7, .sl 5 true [ruleAV ⟨11, 1, endsL[iA]'hA, endsL[iB]'hB, 0⟩]), (8, .raw (.int .i64 dK))]) (fun _ => [.var [nilS, nilS, nilS, .sl 8 true (exPts.map ptAV)]]) (fun k => (1461 - k).toNat) (730) ⟨by omega, by omega⟩ ⟨(by first | exact sub_int rfl (by omega) | rfl), (by first | exact sub_int rfl (by omega) | rfl), (by first | exact sub_int rfl (by omega) | rfl), (by first | exact sub_int rfl (by omega) | rfl), (by first | exact sub_int rfl (by omega) | rfl), (by first | exact sub_int rfl (by omega) | rfl), (by first | exact sub_int rfl (by omega) | rfl), (by first | exact sub_int rfl (by omega) | rfl), (by first | exact sub_int rfl (by omega) | rfl), (by first | exact sub_int rfl (by omega) | rfl), (by first | exact sub_int rfl (by omega) | rfl), trivial⟩ rfl ?_
      intro dK ⟨hk1, hk2⟩
      unfold b8_0
      refine awp_seq ?_
      refine awp_seq ?_
      refine w_reg (l := r8_11.toList) rfl r8_11_ok ?_
      refine a_op rfl (o_mv rfl) ?_
      refine a_if rfl (o_lt rfl rfl) (fun h5 => ?_) (fun h6 => ?_)
      · refine a_nil ?_
        refine tq_n ?_
        refine w_true rfl ?_
        refine awp_skip ?_
        refine tq_n ?_
        refine awp_seq ?_
        refine awp_block ?_
        refine awp_seq ?_
        refine w_reg (l := r8_13.toList) rfl r8_13_ok ?_
        refine a_op rfl ((by first | exact o_ldg tg30 tn30 rfl rfl | exact o_ldpg tg30 tn30 rfl rfl rfl rfl)) ?_
        refine a_op rfl (o_mv rfl) ?_
        refine a_op rfl (o_mv rfl) ?_
        refine a_pureNb (vs' := [EXV, .sl 5 true [ruleAV ⟨11, 1, endsL[iA]'hA, endsL[iB]'hB, 0⟩], .sl 1 true (([] : List Int).map intAV), .raw (.int .i64 11), .raw (.int .i64 dK)]) rfl rfl rfl cb30 (same1 ⟨11, 1, endsL[iA]'hA, endsL[iB]'hB, 0⟩ hok1 _ (by decide) _ _) ⟨.inl rfl, .inl rfl, .inr ⟨rfl, _, _, by decide, rfl⟩, .inl rfl, .inl rfl, trivial⟩ (fun h7 => ?_) (fun h => by cases h)
        refine a_op rfl (o_ntt rfl) ?_
        refine a_nil ?_
        refine tq_n ?_
        refine w_false rfl ?_
        refine awp_skip ?_
        refine bq_n ?_
        refine tq_n ?_
        refine w_reg (l := r8_12.toList) rfl r8_12_ok ?_
        refine a_op rfl (o_mv rfl) ?_
        refine a_op rfl (o_add rfl rfl (by simp only [klo, khi]; omega)) ?_
        refine a_op rfl (o_as rfl) ?_
        refine a_nil ?_
        refine tq_n ?_
        exact ⟨dK + 1, ⟨⟨by omega, by omega⟩, by omega⟩, ⟨(by first | exact sub_int rfl (by omega) | rfl), (by first | exact sub_int rfl (by omega) | rfl), (by first | exact sub_int rfl (by omega) | rfl), (by first | exact sub_int rfl (by omega) | rfl), (by first | exact sub_int rfl (by omega) | rfl), (by first | exact sub_int rfl (by omega) | rfl), (by first | exact sub_int rfl (by omega) | rfl), (by first | exact sub_int rfl (by omega) | rfl), (by first | exact sub_int rfl (by omega) | rfl), (by first | exact sub_int rfl (by omega) | rfl), (by first | exact sub_int rfl (by omega) | rfl), trivial⟩, rfl⟩
      refine a_nil ?_
      refine tq_n ?_
      refine w_false rfl ?_
      refine awp_exit ?_
      refine tq_x ?_
      refine tq_x ?_
      refine bq_hit ?_
      refine bq_n ?_
      refine tq_n ?_
      refine w_reg (l := r8_15.toList) rfl r8_15_ok ?_
      refine a_op rfl (o_add rfl rfl (by simp only [klo, khi]; omega)) ?_
      refine a_op rfl (o_mv rfl) ?_
      refine a_nil ?_
      refine tq_n ?_
      exact ⟨iB + 1, ⟨by omega, by omega⟩, ⟨(by first | exact sub_int rfl (by omega) | rfl), (by first | exact sub_int rfl (by omega) | rfl), (by first | exact sub_int rfl (by omega) | rfl), (by first | exact sub_int rfl (by omega) | rfl), (by first | exact sub_int rfl (by omega) | rfl), (by first | exact sub_int rfl (by omega) | rfl), (by first | exact sub_int rfl (by omega) | rfl), (by first | exact sub_int rfl (by omega) | rfl), (by first | exact sub_int rfl (by omega) | rfl), trivial⟩, rfl⟩
    refine a_nil ?_
    refine tq_n ?_
    refine awp_seq ?_
    refine w_false rfl ?_
    refine awp_exit ?_
    refine tq_x ?_
    refine tq_x ?_
    refine bq_hit ?_
    refine bq_n ?_
    refine tq_n ?_
    refine w_reg (l := r8_16.toList) rfl r8_16_ok ?_
    refine a_op rfl (o_add rfl rfl (by simp only [klo, khi]; omega)) ?_
    refine a_op rfl (o_mv rfl) ?_
    refine a_nil ?_
    refine tq_n ?_
    exact ⟨iA + 1, ⟨by omega, by omega⟩, ⟨(by first | exact sub_int rfl (by omega) | rfl), (by first | exact sub_int rfl (by omega) | rfl), (by first | exact sub_int rfl (by omega) | rfl), (by first | exact sub_int rfl (by omega) | rfl), (by first | exact sub_int rfl (by omega) | rfl), trivial⟩, rfl⟩
  refine a_nil ?_
  refine tq_n ?_
  refine awp_seq ?_
  refine w_false rfl ?_
  refine awp_exit ?_
  refine tq_x ?_
  refine tq_x ?_
  refine bq_hit ?_
  refine tq_n ?_
  refine awp_seq ?_
  refine awp_seq ?_
  refine w_reg (l := r8_17.toList) rfl r8_17_ok ?_
  refine a_op rfl (o_as rfl) ?_
  refine a_nil ?_
  refine tq_n ?_
  refine awp_block ?_
  refine w_loop (fun k : Int => 0 ≤ k ∧ k ≤ 256) (fun ds => [(1, .ptr 0 0), (9, .raw (.int .i64 ds))]) (fun _ => [.var [nilS, nilS, nilS, .sl 8 true (exPts.map ptAV)]]) (fun k => (256 - k).toNat) (0) ⟨by omega, by omega⟩ ⟨(by first | exact sub_int rfl (by omega) | rfl), (by first | exact sub_int rfl (by omega) | rfl), trivial⟩ rfl ?_
  intro ds ⟨hs1, hs2⟩
  unfold b8_4
  refine awp_seq ?_
  refine awp_seq ?_
  refine w_reg (l := r8_18.toList) rfl r8_18_ok ?_
  refine a_op rfl (o_mv rfl) ?_
  refine a_if rfl (o_lt rfl rfl) (fun h8 => ?_) (fun h9 => ?_)
  · refine a_nil ?_
    refine tq_n ?_
    refine w_true rfl ?_
    refine awp_skip ?_
    refine tq_n ?_
    refine awp_seq ?_
    refine awp_block ?_
    refine awp_seq ?_
    have hok2 : RuleR.ok ⟨12, 3, 0, 0, ds⟩ := by simp only [RuleR.ok]; omega
    refine w_reg (l := r8_20.toList) rfl r8_20_ok ?_
    refine a_op rfl (o_mv rfl) ?_
    refine a_op rfl (o_cv tk3 tk5 rfl (by simp only [klo, khi]; omega)) ?_
    refine a_op rfl (o_bd tz37 rfl tp37 rfl rfl) ?_
    refine a_op rfl (o_bs tE32 (by decide) rfl rfl rfl) ?_
    refine a_op rfl (o_as rfl) ?_
    refine a_nil ?_
    refine tq_n ?_
    refine awp_seq ?_
    refine w_reg (l := r8_21.toList) rfl r8_21_ok ?_
    refine a_op rfl ((by first | exact o_ldg tg30 tn30 rfl rfl | exact o_ldpg tg30 tn30 rfl rfl rfl rfl)) ?_
    refine a_op rfl (o_mv rfl) ?_
    refine a_pureN (vs' := [EXV, .sl 5 true [ruleAV ⟨12, 3, 0, 0, ds⟩]]) rfl rfl rfl cb25 (rvalid1 ⟨12, 3, 0, 0, ds⟩ hok2) ⟨.inl rfl, .inl rfl, trivial⟩ ?_
    refine a_op rfl (o_mv rfl) ?_
    refine a_op rfl (o_ex rfl rfl) ?_
    refine a_op rfl (o_ex rfl rfl) ?_
    refine a_op rfl (o_as rfl) ?_
    refine a_op rfl (o_as rfl) ?_
    refine a_nil ?_
    refine tq_n ?_
    refine awp_seq ?_
    refine w_reg (l := r8_22.toList) rfl r8_22_ok ?_
    refine a_op rfl ((by first | exact o_ldg tg30 tn30 rfl rfl | exact o_ldpg tg30 tn30 rfl rfl rfl rfl)) ?_
    refine a_op rfl (o_mv rfl) ?_
    refine a_pureN (vs' := [EXV, .sl 5 true [ruleAV ⟨12, 3, 0, 0, ds⟩]]) rfl rfl rfl cb26 (valid1 ⟨12, 3, 0, 0, ds⟩ hok2) ⟨.inl rfl, .inl rfl, trivial⟩ ?_
    refine a_op rfl (o_mv rfl) ?_
    refine a_op rfl (o_ex rfl rfl) ?_
    refine a_op rfl (o_ex rfl rfl) ?_
    refine a_op rfl (o_as rfl) ?_
    refine a_op rfl (o_as rfl) ?_
    refine a_nil ?_
    refine tq_n ?_
    refine awp_seq ?_
    refine awp_seq ?_
    refine w_reg (l := r8_23.toList) rfl r8_23_ok ?_
    refine a_op rfl (o_mv rfl) ?_
    refine a_op rfl (o_mv rfl) ?_
    refine a_if rfl (o_ne rfl rfl) (fun h10 => ?_) (fun h11 => ?_)
    · omega
    refine a_op rfl (o_mv rfl) ?_
    refine a_op rfl (o_mv rfl) ?_
    refine a_op rfl (o_mv rfl) ?_
    refine a_if rfl (o_ne rfl rfl) (fun h12 => ?_) (fun h13 => ?_)
    · omega
    refine a_op rfl (o_pkf rfl rfl) ?_
    refine a_nil ?_
    refine tq_n ?_
    refine w_false rfl ?_
    refine awp_skip ?_
    refine tq_n ?_
    refine awp_seq ?_
    refine w_reg (l := r8_25.toList) rfl r8_25_ok ?_
    refine a_op rfl (o_as rfl) ?_
    refine a_nil ?_
    refine tq_n ?_
    refine awp_block ?_
    refine w_loop (fun k : Int => 0 ≤ k ∧ k ≤ 10) (fun dT => [(1, .ptr 0 0), (9, .raw (.int .i64 ds)), (10, .sl 5 true [ruleAV ⟨12, 3, 0, 0, ds⟩]), (12, .raw (.int .i64 (validF exPts [⟨12, 3, 0, 0, ds⟩]).2)), (15, .raw (.int .i64 dT))]) (fun _ => [.var [nilS, nilS, nilS, .sl 8 true (exPts.map ptAV)]]) (fun k => (10 - k).toNat) (0) ⟨by omega, by omega⟩ ⟨(by first | exact sub_int rfl (by omega) | rfl), (by first | exact sub_int rfl (by omega) | rfl), (by first | exact sub_int rfl (by omega) | rfl), (by first | exact sub_int rfl (by omega) | rfl), (by first | exact sub_int rfl (by omega) | rfl), trivial⟩ rfl ?_
    intro dT ⟨ht1, ht2⟩
    unfold b8_3
    refine awp_seq ?_
    refine awp_seq ?_
    refine w_reg (l := r8_26.toList) rfl r8_26_ok ?_
    refine a_op rfl (o_mv rfl) ?_
    refine a_if rfl (o_lt rfl rfl) (fun h14 => ?_) (fun h15 => ?_)
    · refine a_op rfl (o_mv rfl) ?_
      refine a_op rfl (o_mv rfl) ?_
      refine a_if rfl (o_eq rfl rfl) (fun h16 => ?_) (fun h17 => ?_)
      · refine a_op rfl (o_pkt rfl rfl) ?_
        refine a_nil ?_
        refine tq_n ?_
        refine w_true rfl ?_
        refine awp_skip ?_
        refine tq_n ?_
        refine awp_seq ?_
        refine awp_block ?_
        refine awp_seq ?_
        refine w_reg (l := r8_28.toList) rfl r8_28_ok ?_
        refine a_op rfl ((by first | exact o_ldg tg30 tn30 rfl rfl | exact o_ldpg tg30 tn30 rfl rfl rfl rfl)) ?_
        refine a_op rfl (o_mv rfl) ?_
        refine a_op rfl (o_mv rfl) ?_
        refine a_pureNb (vs' := [EXV, .sl 5 true [ruleAV ⟨12, 3, 0, 0, ds⟩], .sl 1 true (([] : List Int).map intAV), .raw (.int .i64 12), .raw (.int .i64 dT)]) rfl rfl rfl cb30 (same1 ⟨12, 3, 0, 0, ds⟩ hok2 _ (by decide) _ _) ⟨.inl rfl, .inl rfl, .inr ⟨rfl, _, _, by decide, rfl⟩, .inl rfl, .inl rfl, trivial⟩ (fun h18 => ?_) (fun h => by cases h)
        refine a_op rfl (o_ntt rfl) ?_
        refine a_nil ?_
        refine tq_n ?_
        refine w_false rfl ?_
        refine awp_skip ?_
        refine bq_n ?_
        refine tq_n ?_
        refine w_reg (l := r8_27.toList) rfl r8_27_ok ?_
        refine a_op rfl (o_mv rfl) ?_
        refine a_op rfl (o_add rfl rfl (by simp only [klo, khi]; omega)) ?_
        refine a_op rfl (o_as rfl) ?_
        refine a_nil ?_
        refine tq_n ?_
        exact ⟨dT + 1, ⟨⟨by omega, by omega⟩, by omega⟩, ⟨(by first | exact sub_int rfl (by omega) | rfl), (by first | exact sub_int rfl (by omega) | rfl), (by first | exact sub_int rfl (by omega) | rfl), (by first | exact sub_int rfl (by omega) | rfl), (by first | exact sub_int rfl (by omega) | rfl), trivial⟩, rfl⟩
      refine a_op rfl (o_pkt rfl rfl) ?_
      refine a_nil ?_
      refine tq_n ?_
      refine w_false rfl ?_
      refine awp_exit ?_
      refine tq_x ?_
      refine tq_x ?_
      refine bq_hit ?_
      refine bq_n ?_
      refine tq_n ?_
      refine w_reg (l := r8_19.toList) rfl r8_19_ok ?_
      refine a_op rfl (o_mv rfl) ?_
      refine a_op rfl (o_add rfl rfl (by simp only [klo, khi]; omega)) ?_
      refine a_op rfl (o_as rfl) ?_
      refine a_nil ?_
      refine tq_n ?_
      exact ⟨ds + 1, ⟨⟨by omega, by omega⟩, by omega⟩, ⟨(by first | exact sub_int rfl (by omega) | rfl), (by first | exact sub_int rfl (by omega) | rfl), trivial⟩, rfl⟩
    refine a_op rfl (o_mv rfl) ?_
    refine a_off rfl ?_
    refine a_off rfl ?_
    refine a_op rfl (o_pkf rfl rfl) ?_
    refine a_nil ?_
    refine tq_n ?_
    refine w_false rfl ?_
    refine awp_exit ?_
    refine tq_x ?_
    refine tq_x ?_
    refine bq_hit ?_
    refine bq_n ?_
    refine tq_n ?_
    refine w_reg (l := r8_19.toList) rfl r8_19_ok ?_
    refine a_op rfl (o_mv rfl) ?_
    refine a_op rfl (o_add rfl rfl (by simp only [klo, khi]; omega)) ?_
    refine a_op rfl (o_as rfl) ?_
    refine a_nil ?_
    refine tq_n ?_
    exact ⟨ds + 1, ⟨⟨by omega, by omega⟩, by omega⟩, ⟨(by first | exact sub_int rfl (by omega) | rfl), (by first | exact sub_int rfl (by omega) | rfl), trivial⟩, rfl⟩
  refine a_nil ?_
  refine tq_n ?_
  refine w_false rfl ?_
  refine awp_exit ?_
  refine tq_x ?_
  refine tq_x ?_
  refine bq_hit ?_
  refine tq_n ?_
  refine awp_seq ?_
  refine w_reg (l := r8_30.toList) rfl r8_30_ok ?_
  refine a_op rfl (o_bs tE34 (by decide) rfl rfl rfl) ?_
  refine a_op rfl (o_as rfl) ?_
  refine a_nil ?_
  refine tq_n ?_
  refine awp_seq ?_
  refine awp_seq ?_
  refine w_reg (l := r8_31.toList) rfl r8_31_ok ?_
  refine a_op rfl (o_mv rfl) ?_
  refine a_op rfl (o_len rfl rfl (by first | exact List.length_map .. | rfl) tl34) ?_
  refine a_op rfl (o_mv rfl) ?_
  refine a_nil ?_
  refine tq_n ?_
  refine awp_block ?_
  refine w_loop (fun k : Nat => k ≤ numsL.length) (fun jA => [(1, .ptr 0 0), (16, .sl 1 true (numsL.map intAV)), (100, .sl 1 true (numsL.map intAV)), (101, .raw (.int .i64 ((numsL.length : Nat) : Int))), (102, .raw (.int .i64 ((jA : Nat) : Int)))]) (fun _ => [.var [nilS, nilS, nilS, .sl 8 true (exPts.map ptAV)]]) (fun k => numsL.length - k) (0) (by omega) ⟨(by first | exact sub_int rfl (by omega) | rfl), (by first | exact sub_int rfl (by omega) | rfl), (by first | exact sub_int rfl (by omega) | rfl), (by first | exact sub_int rfl (by omega) | rfl), (by first | exact sub_int rfl (by omega) | rfl), trivial⟩ rfl ?_
  intro jA hJAp
  unfold b8_8
  refine awp_seq ?_
  refine w_reg (l := r8_32.toList) rfl r8_32_ok ?_
  refine a_if rfl (o_lt rfl rfl) (fun h19 => ?_) (fun h20 => ?_)
  · refine a_nil ?_
    refine tq_n ?_
    refine awp_seq ?_
    refine w_true rfl ?_
    refine awp_skip ?_
    refine tq_n ?_
    refine awp_seq ?_
    refine awp_block ?_
    refine awp_seq ?_
    have hJA : jA < numsL.length := by omega
    refine w_reg (l := r8_33.toList) rfl r8_33_ok ?_
    refine a_op rfl (o_ix te34 tn3 rfl rfl rfl (ixm _ _ _ hJA)) ?_
    refine a_op rfl ((by first | exact o_ld tg3 rfl rfl | exact o_ldp tg3 rfl rfl rfl rfl)) ?_
    refine a_op rfl (o_as rfl) ?_
    refine a_nil ?_
    refine tq_n ?_
    refine awp_seq ?_
    refine w_reg (l := r8_34.toList) rfl r8_34_ok ?_
    refine a_op rfl (o_mv rfl) ?_
    refine a_op rfl (o_len rfl rfl (by first | exact List.length_map .. | rfl) tl34) ?_
    refine a_op rfl (o_mv rfl) ?_
    refine a_nil ?_
    refine tq_n ?_
    refine awp_block ?_
    refine w_loop (fun k : Nat => k ≤ numsL.length) (fun jB => [(1, .ptr 0 0), (16, .sl 1 true (numsL.map intAV)), (100, .sl 1 true (numsL.map intAV)), (101, .raw (.int .i64 ((numsL.length : Nat) : Int))), (102, .raw (.int .i64 ((jA : Nat) : Int))), (18, intAV (numsL[jA]'hJA)), (106, .sl 1 true (numsL.map intAV)), (107, .raw (.int .i64 ((numsL.length : Nat) : Int))), (108, .raw (.int .i64 ((jB : Nat) : Int)))]) (fun _ => [.var [nilS, nilS, nilS, .sl 8 true (exPts.map ptAV)]]) (fun k => numsL.length - k) (0) (by omega) ⟨(by first | exact sub_int rfl (by omega) | rfl), (by first | exact sub_int rfl (by omega) | rfl), (by first | exact sub_int rfl (by omega) | rfl), (by first | exact sub_int rfl (by omega) | rfl), (by first | exact sub_int rfl (by omega) | rfl), (by first | exact sub_int rfl (by omega) | rfl), (by first | exact sub_int rfl (by omega) | rfl), (by first | exact sub_int rfl (by omega) | rfl), (by first | exact sub_int rfl (by omega) | rfl), trivial⟩ rfl ?_
    intro jB hJBp
    unfold b8_7
    refine awp_seq ?_
    refine w_reg (l := r8_35.toList) rfl r8_35_ok ?_
    refine a_if rfl (o_lt rfl rfl) (fun h21 => ?_) (fun h22 => ?_)
    · refine a_nil ?_
      refine tq_n ?_
      refine awp_seq ?_
      refine w_true rfl ?_
      refine awp_skip ?_
      refine tq_n ?_
      refine awp_seq ?_
      refine awp_block ?_
      refine awp_seq ?_
      have hJB : jB < numsL.length := by omega
      have hb3 := nums_bd _ (List.getElem_mem hJA)
      have hb4 := nums_bd _ (List.getElem_mem hJB)
      refine w_reg (l := r8_36.toList) rfl r8_36_ok ?_
      refine a_op rfl (o_ix te34 tn3 rfl rfl rfl (ixm _ _ _ hJB)) ?_
      refine a_op rfl ((by first | exact o_ld tg3 rfl rfl | exact o_ldp tg3 rfl rfl rfl rfl)) ?_
      refine a_op rfl (o_as rfl) ?_
      refine a_nil ?_
      refine tq_n ?_
      refine awp_seq ?_
      refine w_reg (l := r8_37.toList) rfl r8_37_ok ?_
      refine a_op rfl (o_as rfl) ?_
      refine a_nil ?_
      refine tq_n ?_
      refine awp_block ?_
      refine w_loop (fun k : Int => 0 ≤ k ∧ k ≤ 5) (fun kk => [(1, .ptr 0 0), (16, .sl 1 true (numsL.map intAV)), (100, .sl 1 true (numsL.map intAV)), (101, .raw (.int .i64 ((numsL.length : Nat) : Int))), (102, .raw (.int .i64 ((jA : Nat) : Int))), (18, intAV (numsL[jA]'hJA)), (106, .sl 1 true (numsL.map intAV)), (107, .raw (.int .i64 ((numsL.length : Nat) : Int))), (108, .raw (.int .i64 ((jB : Nat) : Int))), (20, intAV (numsL[jB]'hJB)), (21, .raw (.int .i64 kk))]) (fun _ => [.var [nilS, nilS, nilS, .sl 8 true (exPts.map ptAV)]]) (fun k => (5 - k).toNat) (0) ⟨by omega, by omega⟩ ⟨(by first | exact sub_int rfl (by omega) | rfl), (by first | exact sub_int rfl (by omega) | rfl), (by first | exact sub_int rfl (by omega) | rfl), (by first | exact sub_int rfl (by omega) | rfl), (by first | exact sub_int rfl (by omega) | rfl), (by first | exact sub_int rfl (by omega) | rfl), (by first | exact sub_int rfl (by omega) | rfl), (by first | exact sub_int rfl (by omega) | rfl), (by first | exact sub_int rfl (by omega) | rfl), (by first | exact sub_int rfl (by omega) | rfl), (by first | exact sub_int rfl (by omega) | rfl), trivial⟩ rfl ?_
      intro kk ⟨hq1, hq2⟩
      unfold b8_6
      refine awp_seq ?_
      refine awp_seq ?_
      refine w_reg (l := r8_38.toList) rfl r8_38_ok ?_
      refine a_op rfl (o_mv rfl) ?_
      refine a_if rfl (o_lt rfl rfl) (fun h23 => ?_) (fun h24 => ?_)
      · refine a_nil ?_
        refine tq_n ?_
        refine w_true rfl ?_
        refine awp_skip ?_
        refine tq_n ?_
        refine awp_seq ?_
        refine awp_block ?_
        refine awp_seq ?_
        have hok3 : RuleR.ok ⟨13, kk, numsL[jA]'hJA, numsL[jB]'hJB, kk / 3⟩ := by simp only [RuleR.ok]; omega
        refine w_reg (l := r8_40.toList) rfl r8_40_ok ?_
        refine a_op rfl (o_mv rfl) ?_
        refine a_op rfl (o_cv tk3 tk5 rfl (by simp only [klo, khi]; omega)) ?_
        refine a_op rfl (o_mv rfl) ?_
        refine a_op rfl (o_mv rfl) ?_
        refine a_op rfl (o_mv rfl) ?_
        refine a_op rfl (o_quo rfl rfl (by simp only [klo, khi]; omega) (by omega)) ?_
        refine a_op rfl (o_cv tk3 tk5 rfl (by simp only [klo, khi]; omega)) ?_
        refine a_op rfl (o_bd tz37 rfl tp37 rfl rfl) ?_
        refine a_op rfl (o_bs tE32 (by decide) rfl rfl rfl) ?_
        refine a_op rfl (o_as rfl) ?_
        refine a_nil ?_
        refine tq_n ?_
        refine awp_seq ?_
        refine w_reg (l := r8_41.toList) rfl r8_41_ok ?_
        refine a_op rfl ((by first | exact o_ldg tg30 tn30 rfl rfl | exact o_ldpg tg30 tn30 rfl rfl rfl rfl)) ?_
        refine a_op rfl (o_mv rfl) ?_
        refine a_pureN (vs' := [EXV, .sl 5 true [ruleAV ⟨13, kk, numsL[jA]'hJA, numsL[jB]'hJB, kk / 3⟩]]) rfl rfl rfl cb25 (rvalid1 ⟨13, kk, numsL[jA]'hJA, numsL[jB]'hJB, kk / 3⟩ hok3) ⟨.inl rfl, .inl rfl, trivial⟩ ?_
        refine a_op rfl (o_mv rfl) ?_
        refine a_op rfl (o_ex rfl rfl) ?_
        refine a_op rfl (o_ex rfl rfl) ?_
        refine a_op rfl (o_as rfl) ?_
        refine a_op rfl (o_as rfl) ?_
        refine a_nil ?_
        refine tq_n ?_
        refine awp_seq ?_
        refine w_reg (l := r8_42.toList) rfl r8_42_ok ?_
        refine a_op rfl ((by first | exact o_ldg tg30 tn30 rfl rfl | exact o_ldpg tg30 tn30 rfl rfl rfl rfl)) ?_
        refine a_op rfl (o_mv rfl) ?_
        refine a_pureN (vs' := [EXV, .sl 5 true [ruleAV ⟨13, kk, numsL[jA]'hJA, numsL[jB]'hJB, kk / 3⟩]]) rfl rfl rfl cb26 (valid1 ⟨13, kk, numsL[jA]'hJA, numsL[jB]'hJB, kk / 3⟩ hok3) ⟨.inl rfl, .inl rfl, trivial⟩ ?_
        refine a_op rfl (o_mv rfl) ?_
        refine a_op rfl (o_ex rfl rfl) ?_
        refine a_op rfl (o_ex rfl rfl) ?_
        refine a_op rfl (o_as rfl) ?_
        refine a_op rfl (o_as rfl) ?_
        refine a_nil ?_
        refine tq_n ?_
        refine awp_seq ?_
        refine awp_seq ?_
        refine w_reg (l := r8_43.toList) rfl r8_43_ok ?_
        refine a_op rfl (o_mv rfl) ?_
        refine a_op rfl (o_mv rfl) ?_
        refine a_if rfl (o_ne rfl rfl) (fun h25 => ?_) (fun h26 => ?_)
        · omega
        refine a_op rfl (o_mv rfl) ?_
        refine a_op rfl (o_mv rfl) ?_
        refine a_op rfl (o_mv rfl) ?_
        refine a_if rfl (o_ne rfl rfl) (fun h27 => ?_) (fun h28 => ?_)
        · omega
        refine a_op rfl (o_pkf rfl rfl) ?_
        refine a_nil ?_
        refine tq_n ?_
        refine w_false rfl ?_
        refine awp_skip ?_
        refine tq_n ?_
        refine awp_seq ?_
        refine w_reg (l := r8_45.toList) rfl r8_45_ok ?_
        refine a_op rfl (o_mv rfl) ?_
        refine a_op rfl (o_len rfl rfl (by first | exact List.length_map .. | rfl) tl34) ?_
        refine a_op rfl (o_mv rfl) ?_
        refine a_nil ?_
        refine tq_n ?_
        refine awp_block ?_
        refine w_loop (fun k : Nat => k ≤ numsL.length) (fun jC => [(1, .ptr 0 0), (16, .sl 1 true (numsL.map intAV)), (100, .sl 1 true (numsL.map intAV)), (101, .raw (.int .i64 ((numsL.length : Nat) : Int))), (102, .raw (.int .i64 ((jA : Nat) : Int))), (18, intAV (numsL[jA]'hJA)), (106, .sl 1 true (numsL.map intAV)), (107, .raw (.int .i64 ((numsL.length : Nat) : Int))), (108, .raw (.int .i64 ((jB : Nat) : Int))), (20, intAV (numsL[jB]'hJB)), (21, .raw (.int .i64 kk)), (22, .sl 5 true [ruleAV ⟨13, kk, numsL[jA]'hJA, numsL[jB]'hJB, kk / 3⟩]), (24, .raw (.int .i64 (validF exPts [⟨13, kk, numsL[jA]'hJA, numsL[jB]'hJB, kk / 3⟩]).2)), (145, .sl 1 true (numsL.map intAV)), (146, .raw (.int .i64 ((numsL.length : Nat) : Int))), (147, .raw (.int .i64 ((jC : Nat) : Int)))]) (fun _ => [.var [nilS, nilS, nilS, .sl 8 true (exPts.map ptAV)]]) (fun k => numsL.length - k) (0) (by omega) ⟨(by first | exact sub_int rfl (by omega) | rfl), (by first | exact sub_int rfl (by omega) | rfl), (by first | exact sub_int rfl (by omega) | rfl), (by first | exact sub_int rfl (by omega) | rfl), (by first | exact sub_int rfl (by omega) | rfl), (by first | exact sub_int rfl (by omega) | rfl), (by first | exact sub_int rfl (by omega) | rfl), (by first | exact sub_int rfl (by omega) | rfl), (by first | exact sub_int rfl (by omega) | rfl), (by first | exact sub_int rfl (by omega) | rfl), (by first | exact sub_int rfl (by omega) | rfl), (by first | exact sub_int rfl (by omega) | rfl), (by first | exact sub_int rfl (by omega) | rfl), (by first | exact sub_int rfl (by omega) | rfl), (by first | exact sub_int rfl (by omega) | rfl), (by first | exact sub_int rfl (by omega) | rfl), trivial⟩ rfl ?_
        intro jC hJCp
        unfold b8_5
        refine awp_seq ?_
        refine w_reg (l := r8_46.toList) rfl r8_46_ok ?_
        refine a_if rfl (o_lt rfl rfl) (fun h29 => ?_) (fun h30 => ?_)
        · refine a_nil ?_
          refine tq_n ?_
          refine awp_seq ?_
          refine w_true rfl ?_
          refine awp_skip ?_
          refine tq_n ?_
          refine awp_seq ?_
          refine awp_block ?_
          refine awp_seq ?_
          have hJC : jC < numsL.length := by omega
          refine w_reg (l := r8_47.toList) rfl r8_47_ok ?_
          refine a_op rfl (o_ix te34 tn3 rfl rfl rfl (ixm _ _ _ hJC)) ?_
          refine a_op rfl ((by first | exact o_ld tg3 rfl rfl | exact o_ldp tg3 rfl rfl rfl rfl)) ?_
          refine a_op rfl (o_as rfl) ?_
          refine a_nil ?_
          refine tq_n ?_
          refine awp_seq ?_
          refine w_reg (l := r8_48.toList) rfl r8_48_ok ?_
          refine a_op rfl (o_mv rfl) ?_
          refine a_if rfl (o_eq rfl rfl) (fun h31 => ?_) (fun h32 => ?_)
          · refine a_op rfl (o_mv rfl) ?_
            refine a_op rfl ((by first | exact o_ldg tg30 tn30 rfl rfl | exact o_ldpg tg30 tn30 rfl rfl rfl rfl)) ?_
            refine a_op rfl (o_mv rfl) ?_
            refine a_op rfl (o_bs tE34 (by decide) rfl rfl rfl) ?_
            refine a_op rfl (o_mv rfl) ?_
            refine a_pureNb (vs' := [EXV, .sl 5 true [ruleAV ⟨13, kk, numsL[jA]'hJA, numsL[jB]'hJB, kk / 3⟩], .sl 1 true (holsL.map intAV), .raw (.int .i64 13), .raw (.int .i64 (numsL[jC]'hJC))]) rfl rfl rfl cb30 (same1 ⟨13, kk, numsL[jA]'hJA, numsL[jB]'hJB, kk / 3⟩ hok3 _ (by decide) _ _) ⟨.inl rfl, .inl rfl, .inl rfl, .inl rfl, .inl rfl, trivial⟩ (fun h33 => ?_) (fun h => by cases h)
            refine a_op rfl (o_ntt rfl) ?_
            refine a_op rfl (o_pkt rfl rfl) ?_
            refine a_nil ?_
            refine tq_n ?_
            refine w_false rfl ?_
            refine awp_skip ?_
            refine bq_n ?_
            refine tq_n ?_
            refine w_reg (l := r8_50.toList) rfl r8_50_ok ?_
            refine a_op rfl (o_add rfl rfl (by simp only [klo, khi]; omega)) ?_
            refine a_op rfl (o_mv rfl) ?_
            refine a_nil ?_
            refine tq_n ?_
            exact ⟨jC + 1, ⟨by omega, by omega⟩, ⟨(by first | exact sub_int rfl (by omega) | rfl), (by first | exact sub_int rfl (by omega) | rfl), (by first | exact sub_int rfl (by omega) | rfl), (by first | exact sub_int rfl (by omega) | rfl), (by first | exact sub_int rfl (by omega) | rfl), (by first | exact sub_int rfl (by omega) | rfl), (by first | exact sub_int rfl (by omega) | rfl), (by first | exact sub_int rfl (by omega) | rfl), (by first | exact sub_int rfl (by omega) | rfl), (by first | exact sub_int rfl (by omega) | rfl), (by first | exact sub_int rfl (by omega) | rfl), (by first | exact sub_int rfl (by omega) | rfl), (by first | exact sub_int rfl (by omega) | rfl), (by first | exact sub_int rfl (by omega) | rfl), (by first | exact sub_int rfl (by omega) | rfl), (by first | exact sub_int rfl (by omega) | rfl), trivial⟩, rfl⟩
          refine a_op rfl (o_mv rfl) ?_
          refine a_off rfl ?_
          refine a_off rfl ?_
          refine a_off rfl ?_
          refine a_off rfl ?_
          refine a_off rfl ?_
          refine a_off rfl ?_
          refine a_op rfl (o_pkf rfl rfl) ?_
          refine a_nil ?_
          refine tq_n ?_
          refine w_false rfl ?_
          refine awp_skip ?_
          refine bq_n ?_
          refine tq_n ?_
          refine w_reg (l := r8_50.toList) rfl r8_50_ok ?_
          refine a_op rfl (o_add rfl rfl (by simp only [klo, khi]; omega)) ?_
          refine a_op rfl (o_mv rfl) ?_
          refine a_nil ?_
          refine tq_n ?_
          exact ⟨jC + 1, ⟨by omega, by omega⟩, ⟨(by first | exact sub_int rfl (by omega) | rfl), (by first | exact sub_int rfl (by omega) | rfl), (by first | exact sub_int rfl (by omega) | rfl), (by first | exact sub_int rfl (by omega) | rfl), (by first | exact sub_int rfl (by omega) | rfl), (by first | exact sub_int rfl (by omega) | rfl), (by first | exact sub_int rfl (by omega) | rfl), (by first | exact sub_int rfl (by omega) | rfl), (by first | exact sub_int rfl (by omega) | rfl), (by first | exact sub_int rfl (by omega) | rfl), (by first | exact sub_int rfl (by omega) | rfl), (by first | exact sub_int rfl (by omega) | rfl), (by first | exact sub_int rfl (by omega) | rfl), (by first | exact sub_int rfl (by omega) | rfl), (by first | exact sub_int rfl (by omega) | rfl), (by first | exact sub_int rfl (by omega) | rfl), trivial⟩, rfl⟩
        refine a_nil ?_
        refine tq_n ?_
        refine awp_seq ?_
        refine w_false rfl ?_
        refine awp_exit ?_
        refine tq_x ?_
        refine tq_x ?_
        refine bq_hit ?_
        refine bq_n ?_
        refine tq_n ?_
        refine w_reg (l := r8_39.toList) rfl r8_39_ok ?_
        refine a_op rfl (o_mv rfl) ?_
        refine a_op rfl (o_add rfl rfl (by simp only [klo, khi]; omega)) ?_
        refine a_op rfl (o_as rfl) ?_
        refine a_nil ?_
        refine tq_n ?_
        exact ⟨kk + 1, ⟨⟨by omega, by omega⟩, by omega⟩, ⟨(by first | exact sub_int rfl (by omega) | rfl), (by first | exact sub_int rfl (by omega) | rfl), (by first | exact sub_int rfl (by omega) | rfl), (by first | exact sub_int rfl (by omega) | rfl), (by first | exact sub_int rfl (by omega) | rfl), (by first | exact sub_int rfl (by omega) | rfl), (by first | exact sub_int rfl (by omega) | rfl), (by first | exact sub_int rfl (by omega) | rfl), (by first | exact sub_int rfl (by omega) | rfl), (by first | exact sub_int rfl (by omega) | rfl), (by first | exact sub_int rfl (by omega) | rfl), trivial⟩, rfl⟩
      refine a_nil ?_
      refine tq_n ?_
      refine w_false rfl ?_
      refine awp_exit ?_
      refine tq_x ?_
      refine tq_x ?_
      refine bq_hit ?_
      refine bq_n ?_
      refine tq_n ?_
      refine w_reg (l := r8_51.toList) rfl r8_51_ok ?_
      refine a_op rfl (o_add rfl rfl (by simp only [klo, khi]; omega)) ?_
      refine a_op rfl (o_mv rfl) ?_
      refine a_nil ?_
      refine tq_n ?_
      exact ⟨jB + 1, ⟨by omega, by omega⟩, ⟨(by first | exact sub_int rfl (by omega) | rfl), (by first | exact sub_int rfl (by omega) | rfl), (by first | exact sub_int rfl (by omega) | rfl), (by first | exact sub_int rfl (by omega) | rfl), (by first | exact sub_int rfl (by omega) | rfl), (by first | exact sub_int rfl (by omega) | rfl), (by first | exact sub_int rfl (by omega) | rfl), (by first | exact sub_int rfl (by omega) | rfl), (by first | exact sub_int rfl (by omega) | rfl), trivial⟩, rfl⟩
    refine a_nil ?_
    refine tq_n ?_
    refine awp_seq ?_
    refine w_false rfl ?_
    refine awp_exit ?_
    refine tq_x ?_
    refine tq_x ?_
    refine bq_hit ?_
    refine bq_n ?_
    refine tq_n ?_
    refine w_reg (l := r8_52.toList) rfl r8_52_ok ?_
    refine a_op rfl (o_add rfl rfl (by simp only [klo, khi]; omega)) ?_
    refine a_op rfl (o_mv rfl) ?_
    refine a_nil ?_
    refine tq_n ?_
    exact ⟨jA + 1, ⟨by omega, by omega⟩, ⟨(by first | exact sub_int rfl (by omega) | rfl), (by first | exact sub_int rfl (by omega) | rfl), (by first | exact sub_int rfl (by omega) | rfl), (by first | exact sub_int rfl (by omega) | rfl), (by first | exact sub_int rfl (by omega) | rfl), trivial⟩, rfl⟩
  refine a_nil ?_
  refine tq_n ?_
  refine awp_seq ?_
  refine w_false rfl ?_
  refine awp_exit ?_
  refine tq_x ?_
  refine tq_x ?_
  refine bq_hit ?_
  refine tq_n ?_
  refine awp_seq ?_
  refine w_reg (l := r8_53.toList) rfl r8_53_ok ?_
  refine a_pure rfl rfl rfl cb15 (awake_ok) ?_
  refine a_op rfl (o_as rfl) ?_
  refine a_nil ?_
  refine tq_n ?_
  refine awp_ret ?_
  refine r_one rfl ⟨rfl, trivial⟩ ?_
  exact rs_pur (by simp) rfl
end Go.Ab.D
