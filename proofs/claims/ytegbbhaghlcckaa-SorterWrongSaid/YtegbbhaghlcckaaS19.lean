/- What functions of this program compute, and the laws of what they compute, under the bounds on lengths that each contract states. -/
import Derived.Test.YtegbbhaghlcckaaK12

set_option linter.unusedSimpArgs false
set_option linter.unusedVariables false
namespace Go.Ab.S
open Go Go.Ab Go.Proofs
@[simp] theorem good_feed (H : Heap) (x : FeedR) : (feedAV x).goodPart H = true := rfl
@[simp] theorem good_item (H : Heap) (x : ItemR) : (itemAV x).goodPart H = true := rfl

noncomputable def r9_0 : Array Oper := opsAt Try.f9 [0]
theorem r9_0_ok : dstOk 264 r9_0.toList = true ∧ r9_0.toList.all (fun o => noDefer o.op) = true := by decide +kernel
noncomputable def r9_1 : Array Oper := opsAt Try.f9 [1, 0]
theorem r9_1_ok : dstOk 264 r9_1.toList = true ∧ r9_1.toList.all (fun o => noDefer o.op) = true := by decide +kernel
noncomputable def r9_2 : Array Oper := opsAt Try.f9 [1, 1, 0]
theorem r9_2_ok : dstOk 264 r9_2.toList = true ∧ r9_2.toList.all (fun o => noDefer o.op) = true := by decide +kernel
noncomputable def r9_3 : Array Oper := opsAt Try.f9 [1, 1, 1, 0]
theorem r9_3_ok : dstOk 264 r9_3.toList = true ∧ r9_3.toList.all (fun o => noDefer o.op) = true := by decide +kernel
noncomputable def r9_4 : Array Oper := opsAt Try.f9 [1, 1, 1, 1, 0]
theorem r9_4_ok : dstOk 264 r9_4.toList = true ∧ r9_4.toList.all (fun o => noDefer o.op) = true := by decide +kernel
noncomputable def r9_5 : Array Oper := opsAt Try.f9 [1, 1, 1, 1, 1, 0]
theorem r9_5_ok : dstOk 264 r9_5.toList = true ∧ r9_5.toList.all (fun o => noDefer o.op) = true := by decide +kernel
noncomputable def r9_6 : Array Oper := opsAt Try.f9 [1, 1, 1, 1, 1, 1, 0]
theorem r9_6_ok : dstOk 264 r9_6.toList = true ∧ r9_6.toList.all (fun o => noDefer o.op) = true := by decide +kernel
noncomputable def r9_7 : Array Oper := opsAt Try.f9 [1, 1, 1, 1, 1, 1, 1, 0]
theorem r9_7_ok : dstOk 264 r9_7.toList = true ∧ r9_7.toList.all (fun o => noDefer o.op) = true := by decide +kernel
noncomputable def r9_8 : Array Oper := opsAt Try.f9 [1, 1, 1, 1, 1, 1, 1, 1, 0]
theorem r9_8_ok : dstOk 264 r9_8.toList = true ∧ r9_8.toList.all (fun o => noDefer o.op) = true := by decide +kernel
noncomputable def r9_9 : Array Oper := opsAt Try.f9 [1, 1, 1, 1, 1, 1, 1, 1, 1, 0]
theorem r9_9_ok : dstOk 264 r9_9.toList = true ∧ r9_9.toList.all (fun o => noDefer o.op) = true := by decide +kernel
noncomputable def r9_10 : Array Oper := opsAt Try.f9 [1, 1, 1, 1, 1, 1, 1, 1, 1, 1, 0]
theorem r9_10_ok : dstOk 264 r9_10.toList = true ∧ r9_10.toList.all (fun o => noDefer o.op) = true := by decide +kernel
noncomputable def r9_11 : Array Oper := opsAt Try.f9 [1, 1, 1, 1, 1, 1, 1, 1, 1, 1, 1, 0]
theorem r9_11_ok : dstOk 264 r9_11.toList = true ∧ r9_11.toList.all (fun o => noDefer o.op) = true := by decide +kernel
noncomputable def r9_12 : Array Oper := opsAt Try.f9 [1, 1, 1, 1, 1, 1, 1, 1, 1, 1, 1, 1, 0]
theorem r9_12_ok : dstOk 264 r9_12.toList = true ∧ r9_12.toList.all (fun o => noDefer o.op) = true := by decide +kernel
noncomputable def r9_13 : Array Oper := opsAt Try.f9 [1, 1, 1, 1, 1, 1, 1, 1, 1, 1, 1, 1, 1, 0, 0]
theorem r9_13_ok : dstOk 264 r9_13.toList = true ∧ r9_13.toList.all (fun o => noDefer o.op) = true := by decide +kernel
noncomputable def r9_14 : Array Oper := opsAt Try.f9 [1, 1, 1, 1, 1, 1, 1, 1, 1, 1, 1, 1, 1, 0, 1, 0, 0]
theorem r9_14_ok : dstOk 264 r9_14.toList = true ∧ r9_14.toList.all (fun o => noDefer o.op) = true := by decide +kernel
noncomputable def r9_15 : Array Oper := opsAt Try.f9 [1, 1, 1, 1, 1, 1, 1, 1, 1, 1, 1, 1, 1, 1, 0, 0]
theorem r9_15_ok : dstOk 264 r9_15.toList = true ∧ r9_15.toList.all (fun o => noDefer o.op) = true := by decide +kernel
noncomputable def r9_16 : Array Oper := opsAt Try.f9 [1, 1, 1, 1, 1, 1, 1, 1, 1, 1, 1, 1, 1, 1, 0, 1, 0, 0, 0]
theorem r9_16_ok : dstOk 264 r9_16.toList = true ∧ r9_16.toList.all (fun o => noDefer o.op) = true := by decide +kernel
noncomputable def r9_17 : Array Oper := opsAt Try.f9 [1, 1, 1, 1, 1, 1, 1, 1, 1, 1, 1, 1, 1, 1, 0, 1, 0, 0, 1, 1, 0, 0, 0]
theorem r9_17_ok : dstOk 264 r9_17.toList = true ∧ r9_17.toList.all (fun o => noDefer o.op) = true := by decide +kernel
noncomputable def r9_18 : Array Oper := opsAt Try.f9 [1, 1, 1, 1, 1, 1, 1, 1, 1, 1, 1, 1, 1, 1, 0, 1, 0, 0, 1, 1, 0, 0, 1, 0]
theorem r9_18_ok : dstOk 264 r9_18.toList = true ∧ r9_18.toList.all (fun o => noDefer o.op) = true := by decide +kernel
noncomputable def r9_19 : Array Oper := opsAt Try.f9 [1, 1, 1, 1, 1, 1, 1, 1, 1, 1, 1, 1, 1, 1, 0, 1, 0, 0, 1, 1, 0, 0, 1, 1, 0, 0, 0]
theorem r9_19_ok : dstOk 264 r9_19.toList = true ∧ r9_19.toList.all (fun o => noDefer o.op) = true := by decide +kernel
noncomputable def r9_20 : Array Oper := opsAt Try.f9 [1, 1, 1, 1, 1, 1, 1, 1, 1, 1, 1, 1, 1, 1, 0, 1, 0, 0, 1, 1, 0, 0, 1, 1, 0, 0, 1, 1, 0, 0, 0]
theorem r9_20_ok : dstOk 264 r9_20.toList = true ∧ r9_20.toList.all (fun o => noDefer o.op) = true := by decide +kernel
noncomputable def r9_21 : Array Oper := opsAt Try.f9 [1, 1, 1, 1, 1, 1, 1, 1, 1, 1, 1, 1, 1, 1, 0, 1, 0, 0, 1, 1, 0, 0, 1, 1, 0, 0, 1, 1, 0, 0, 1, 0, 0]
theorem r9_21_ok : dstOk 264 r9_21.toList = true ∧ r9_21.toList.all (fun o => noDefer o.op) = true := by decide +kernel
noncomputable def r9_22 : Array Oper := opsAt Try.f9 [1, 1, 1, 1, 1, 1, 1, 1, 1, 1, 1, 1, 1, 1, 0, 1, 0, 0, 1, 1, 0, 0, 1, 1, 0, 0, 1, 1, 0, 0, 1, 1, 0]
theorem r9_22_ok : dstOk 264 r9_22.toList = true ∧ r9_22.toList.all (fun o => noDefer o.op) = true := by decide +kernel
noncomputable def r9_23 : Array Oper := opsAt Try.f9 [1, 1, 1, 1, 1, 1, 1, 1, 1, 1, 1, 1, 1, 1, 0, 1, 0, 0, 1, 1, 0, 0, 1, 1, 0, 0, 1, 1, 0, 0, 1, 1, 1, 0]
theorem r9_23_ok : dstOk 264 r9_23.toList = true ∧ r9_23.toList.all (fun o => noDefer o.op) = true := by decide +kernel
noncomputable def r9_24 : Array Oper := opsAt Try.f9 [1, 1, 1, 1, 1, 1, 1, 1, 1, 1, 1, 1, 1, 1, 0, 1, 0, 0, 1, 1, 0, 0, 1, 1, 0, 0, 1, 1, 0, 0, 1, 1, 1, 1, 0]
theorem r9_24_ok : dstOk 264 r9_24.toList = true ∧ r9_24.toList.all (fun o => noDefer o.op) = true := by decide +kernel
noncomputable def r9_25 : Array Oper := opsAt Try.f9 [1, 1, 1, 1, 1, 1, 1, 1, 1, 1, 1, 1, 1, 1, 0, 1, 0, 0, 1, 1, 0, 0, 1, 1, 0, 0, 1, 1, 0, 0, 1, 1, 1, 1, 1, 0]
theorem r9_25_ok : dstOk 264 r9_25.toList = true ∧ r9_25.toList.all (fun o => noDefer o.op) = true := by decide +kernel
noncomputable def r9_26 : Array Oper := opsAt Try.f9 [1, 1, 1, 1, 1, 1, 1, 1, 1, 1, 1, 1, 1, 1, 0, 1, 0, 0, 1, 1, 0, 0, 1, 1, 0, 0, 1, 1, 0, 0, 1, 1, 1, 1, 1, 1, 0, 0]
theorem r9_26_ok : dstOk 264 r9_26.toList = true ∧ r9_26.toList.all (fun o => noDefer o.op) = true := by decide +kernel
noncomputable def r9_27 : Array Oper := opsAt Try.f9 [1, 1, 1, 1, 1, 1, 1, 1, 1, 1, 1, 1, 1, 1, 0, 1, 0, 0, 1, 1, 0, 0, 1, 1, 0, 0, 1, 1, 1]
theorem r9_27_ok : dstOk 264 r9_27.toList = true ∧ r9_27.toList.all (fun o => noDefer o.op) = true := by decide +kernel
noncomputable def b9_0 : Code := (.seq (.region 19 r9_19 false) (.seq (.cond (.tmp 157) .skip (.exit 2)) (.seq (.block 3 (.seq (.region 20 r9_20 false) (.seq (.seq (.region 21 r9_21 true) (.cond (.tmp 175) (.exit 3) .skip)) (.seq (.region 22 r9_22 false) (.seq (.region 23 r9_23 false) (.seq (.region 24 r9_24 false) (.seq (.region 25 r9_25 false) (.cond (.tmp 190) (.seq (.region 26 r9_26 false) .ret) .skip)))))))) (.region 27 r9_27 false))))
noncomputable def r9_28 : Array Oper := opsAt Try.f9 [1, 1, 1, 1, 1, 1, 1, 1, 1, 1, 1, 1, 1, 1, 0, 1, 0, 0, 1, 1, 1]
theorem r9_28_ok : dstOk 264 r9_28.toList = true ∧ r9_28.toList.all (fun o => noDefer o.op) = true := by decide +kernel
noncomputable def b9_1 : Code := (.seq (.region 16 r9_16 false) (.seq (.cond (.tmp 132) .skip (.exit 0)) (.seq (.block 1 (.seq (.region 17 r9_17 false) (.seq (.region 18 r9_18 true) (.block 2 (.loop b9_0))))) (.region 28 r9_28 false))))
noncomputable def r9_29 : Array Oper := opsAt Try.f9 [1, 1, 1, 1, 1, 1, 1, 1, 1, 1, 1, 1, 1, 1, 1, 0]
theorem r9_29_ok : dstOk 264 r9_29.toList = true ∧ r9_29.toList.all (fun o => noDefer o.op) = true := by decide +kernel
noncomputable def r9_30 : Array Oper := opsAt Try.f9 [1, 1, 1, 1, 1, 1, 1, 1, 1, 1, 1, 1, 1, 1, 1, 1, 0, 0]
theorem r9_30_ok : dstOk 264 r9_30.toList = true ∧ r9_30.toList.all (fun o => noDefer o.op) = true := by decide +kernel
noncomputable def r9_31 : Array Oper := opsAt Try.f9 [1, 1, 1, 1, 1, 1, 1, 1, 1, 1, 1, 1, 1, 1, 1, 1, 0, 1, 0, 0]
theorem r9_31_ok : dstOk 264 r9_31.toList = true ∧ r9_31.toList.all (fun o => noDefer o.op) = true := by decide +kernel
noncomputable def r9_32 : Array Oper := opsAt Try.f9 [1, 1, 1, 1, 1, 1, 1, 1, 1, 1, 1, 1, 1, 1, 1, 1, 1, 0]
theorem r9_32_ok : dstOk 264 r9_32.toList = true ∧ r9_32.toList.all (fun o => noDefer o.op) = true := by decide +kernel
noncomputable def r9_33 : Array Oper := opsAt Try.f9 [1, 1, 1, 1, 1, 1, 1, 1, 1, 1, 1, 1, 1, 1, 1, 1, 1, 1, 0]
theorem r9_33_ok : dstOk 264 r9_33.toList = true ∧ r9_33.toList.all (fun o => noDefer o.op) = true := by decide +kernel
noncomputable def r9_34 : Array Oper := opsAt Try.f9 [1, 1, 1, 1, 1, 1, 1, 1, 1, 1, 1, 1, 1, 1, 1, 1, 1, 1, 1, 0]
theorem r9_34_ok : dstOk 264 r9_34.toList = true ∧ r9_34.toList.all (fun o => noDefer o.op) = true := by decide +kernel
noncomputable def r9_35 : Array Oper := opsAt Try.f9 [1, 1, 1, 1, 1, 1, 1, 1, 1, 1, 1, 1, 1, 1, 1, 1, 1, 1, 1, 1, 0]
theorem r9_35_ok : dstOk 264 r9_35.toList = true ∧ r9_35.toList.all (fun o => noDefer o.op) = true := by decide +kernel
noncomputable def r9_36 : Array Oper := opsAt Try.f9 [1, 1, 1, 1, 1, 1, 1, 1, 1, 1, 1, 1, 1, 1, 1, 1, 1, 1, 1, 1, 1, 0]
theorem r9_36_ok : dstOk 264 r9_36.toList = true ∧ r9_36.toList.all (fun o => noDefer o.op) = true := by decide +kernel
noncomputable def r9_37 : Array Oper := opsAt Try.f9 [1, 1, 1, 1, 1, 1, 1, 1, 1, 1, 1, 1, 1, 1, 1, 1, 1, 1, 1, 1, 1, 1, 0]
theorem r9_37_ok : dstOk 264 r9_37.toList = true ∧ r9_37.toList.all (fun o => noDefer o.op) = true := by decide +kernel
noncomputable def c9 : Code := (.seq (.region 0 r9_0 false) (.seq (.region 1 r9_1 false) (.seq (.region 2 r9_2 false) (.seq (.region 3 r9_3 false) (.seq (.region 4 r9_4 false) (.seq (.region 5 r9_5 false) (.seq (.region 6 r9_6 false) (.seq (.region 7 r9_7 false) (.seq (.region 8 r9_8 false) (.seq (.region 9 r9_9 false) (.seq (.region 10 r9_10 false) (.seq (.region 11 r9_11 false) (.seq (.region 12 r9_12 false) (.seq (.seq (.region 13 r9_13 false) (.cond (.tmp 128) (.seq (.region 14 r9_14 false) .ret) .skip)) (.seq (.seq (.region 15 r9_15 false) (.block 0 (.loop b9_1))) (.seq (.region 29 r9_29 false) (.seq (.seq (.region 30 r9_30 false) (.cond (.tmp 200) (.seq (.region 31 r9_31 false) .ret) .skip)) (.seq (.region 32 r9_32 false) (.seq (.region 33 r9_33 true) (.seq (.region 34 r9_34 true) (.seq (.region 35 r9_35 true) (.seq (.region 36 r9_36 true) (.seq (.region 37 r9_37 false) .ret)))))))))))))))))))))))
theorem body9 : Try.f9.body = some c9 := by kernel_rfl
theorem wrong9_ok (bc : Fl) (caps : List Int) (hlc : caps.length ≤ 9223372036854775807) (hxc : ∀ x ∈ caps, u8r x) (bl : Fl) (l : List Int) (hll : l.length ≤ 9223372036854775807) (hxl : ∀ x ∈ l, u8r x) (b : B4) (x : CaseR) (hx : x.ok) : PureCall Try.prog GL 9 [.sl 1 bc (caps.map u8AV), .sl 1 bl (l.map u8AV), caseAV b x] (.raw (.bool true)) := by
  refine pure_of_body Try.func9 body9 (Nat.le_of_ble_eq_true rfl) (by simp) (by simp) ?_
  refine w_keep [(0, .sl 1 bc (caps.map u8AV)), (1, .sl 1 bl (l.map u8AV)), (2, caseAV b x)] ⟨rfl, rfl, rfl, trivial⟩ ?_
  unfold c9
  obtain ⟨cs, hcs⟩ : ∃ cs, cs = machF caps := ⟨_, rfl⟩
  obtain ⟨hc0, hc12, hc16⟩ := machF_in hxc
  have hrt := machF_right hxc
  rw [← hcs] at hc0 hc12 hc16 hrt
  obtain ⟨L, hL⟩ : ∃ L, L = fedF cs l := ⟨_, rfl⟩
  have hLl := fedF_len cs l
  have hLi := fedF_in cs l
  have hLw := fedF_wrong cs l
  have hLd := fedF_nodup cs l
  rw [← hL] at hLl hLi hLw hLd
  have hpos : ∀ c ∈ cs, 1 ≤ c := fun c hc => (hc16 c hc).1
  have hin : ∀ x ∈ L, x.stk < cs.length := fun x hx => (hLi x hx).2
  have hL15 : L.length ≤ 150 := by omega
  refine awp_seq ?_
  refine w_reg (l := r9_0.toList) rfl r9_0_ok ?_
  refine a_op rfl (o_box (N := 0) rfl (by rfl) rfl rfl) ?_
  refine a_op rfl (o_as rfl) ?_
  refine a_nil ?_
  refine tq_n ?_
  refine awp_seq ?_
  refine w_reg (l := r9_1.toList) rfl r9_1_ok ?_
  refine a_op rfl (o_mv rfl) ?_
  refine a_pure rfl rfl rfl cb27 (machine_ok bc caps hlc hxc) ?_
  rw [← hcs]
  refine a_op rfl (o_as rfl) ?_
  refine a_nil ?_
  refine tq_n ?_
  refine awp_seq ?_
  refine w_reg (l := r9_2.toList) rfl r9_2_ok ?_
  refine a_op rfl (o_mv rfl) ?_
  refine a_op rfl (o_mv rfl) ?_
  refine a_pure rfl rfl rfl cb28 (fed_ok _ cs (by omega) bl l hll hxl) ?_
  rw [← hL]
  refine a_op rfl (o_as rfl) ?_
  refine a_nil ?_
  refine tq_n ?_
  refine awp_seq ?_
  refine w_reg (l := r9_3.toList) rfl r9_3_ok ?_
  refine a_op rfl (o_bso (N := 1) tE68 (by decide) rfl rfl rfl rfl rfl) ?_
  refine a_op rfl (o_mv rfl) ?_
  refine a_op rfl (o_ap (out := L.map feedAV) (len' := L.length) tE68 rfl rfl (by simp) rfl rfl (by simp) (by simp <;> omega) (by simp <;> omega) rfl (by simp) (by simp) rfl) ?_
  refine a_op rfl (o_bd tz75 rfl tp75 rfl rfl) ?_
  refine a_op rfl (o_bs tE68 (by decide) rfl rfl rfl) ?_
  refine a_op rfl (o_ap (out := (badL L).map feedAV) (len' := L.length + 1) tE68 rfl rfl (by simp) rfl rfl rfl (by simp <;> omega) (by simp <;> omega) rfl (by simp) (by simp [badL, feedAV]) rfl) ?_
  refine a_op rfl (o_as rfl) ?_
  refine a_nil ?_
  refine tq_n ?_
  refine awp_seq ?_
  refine w_reg (l := r9_4.toList) rfl r9_4_ok ?_
  refine a_opH rfl (o_ms (N := 2) tE68 rfl rfl (by decide) (by decide) (by decide) (by decide) rfl rfl) (H' := [.var [.sl 1 b.b0 (x.vols.map u8AV), .sl 1 b.b1 (x.caps.map u8AV), .sl 1 b.b2 (x.picks.map u8AV), .sl 1 b.b3 (x.unread.map u8AV), .raw (.int .u8 x.sweeps)], .vec 2 2 ((badL L).map feedAV), .vec 2 0 (manyF.map feedAV)]) (by rw [← map_manyF]; rfl) ?_
  rw [show (2001 : Int).toNat = 2001 from rfl]
  refine a_op rfl (o_as rfl) ?_
  refine a_nil ?_
  refine tq_n ?_
  refine awp_seq ?_
  refine w_reg (l := r9_5.toList) rfl r9_5_ok ?_
  refine a_op rfl (o_bso (N := 3) tE34 (by decide) rfl rfl rfl rfl rfl) ?_
  refine a_op rfl (o_mv rfl) ?_
  refine a_op rfl (o_ap (out := cs.map intAV) (len' := cs.length) tE34 rfl rfl (by simp) rfl rfl (by simp) (by simp <;> omega) (by simp <;> omega) rfl (by simp) (by simp) rfl) ?_
  refine a_op rfl (o_bs tE34 (by decide) rfl rfl rfl) ?_
  refine a_op rfl (o_ap (out := (cs ++ [0]).map intAV) (len' := cs.length + 1) tE34 rfl rfl (by simp) rfl rfl rfl (by simp <;> omega) (by simp <;> omega) rfl (by simp) (by simp [intAV]) rfl) ?_
  refine a_op rfl (o_mv rfl) ?_
  refine a_lendF (vs' := [.sl 1 fL ((cs ++ [0]).map intAV), .raw (.int .i64 (-1)), .sl 2 fL (manyF.map feedAV)]) rfl rfl rfl cb29 (run_r _ (cs ++ [0]) (by simp; omega) _ _ manyF manyF_le (runF_caps right_zero)) ⟨ln_slo (i := 3) rfl (by simp) (pu_int _) rfl, ln_eq (by simp) rfl, ln_slo (i := 2) rfl manyF_e (pu_feed _) rfl, trivial⟩ (by simp) ?_
  refine a_op rfl (o_mv rfl) ?_
  refine a_op rfl (o_ex rfl rfl) ?_
  refine a_op rfl (o_ex rfl rfl) ?_
  refine a_op rfl (o_al (N := 4) tz60 rfl rfl rfl) ?_
  refine a_op0 rfl (o_st (N := 4) tn60 rfl rfl rfl rfl rfl) ?_
  refine a_op rfl (o_as rfl) ?_
  refine a_nil ?_
  refine tq_n ?_
  refine awp_seq ?_
  refine w_reg (l := r9_6.toList) rfl r9_6_ok ?_
  refine a_op rfl (o_mv rfl) ?_
  refine a_op rfl (o_mv rfl) ?_
  refine a_lendF (vs' := [rowAV cs, .raw (.int .i64 (-1)), .sl 2 fL (manyF.map feedAV)]) rfl rfl rfl cb29 (run_r _ cs (by omega) _ _ manyF manyF_le (runF_sw hrt (by omega))) ⟨ln_eq (by simp) rfl, ln_eq (by simp) rfl, ln_slo (i := 2) rfl manyF_e (pu_feed _) rfl, trivial⟩ (by simp) ?_
  refine a_op rfl (o_mv rfl) ?_
  refine a_op rfl (o_ex rfl rfl) ?_
  refine a_op rfl (o_ex rfl rfl) ?_
  refine a_op rfl (o_al (N := 5) tz60 rfl rfl rfl) ?_
  refine a_op0 rfl (o_st (N := 4) tn60 rfl rfl rfl rfl rfl) ?_
  refine a_op rfl (o_as rfl) ?_
  refine a_nil ?_
  refine tq_n ?_
  refine awp_seq ?_
  refine w_reg (l := r9_7.toList) rfl r9_7_ok ?_
  refine a_op rfl (o_mv rfl) ?_
  refine a_op rfl (o_mv rfl) ?_
  refine a_lendF (vs' := [rowAV cs, .raw (.int .i64 1001), .sl 2 fL ((badL L).map feedAV)]) rfl rfl rfl cb29 (run_r _ cs (by omega) _ _ (badL L) (by simp [badL]; omega) (runF_sw hrt (by omega))) ⟨ln_eq (by simp) rfl, ln_eq (by simp) rfl, ln_slo (i := 1) rfl (by simp [badL]) (pu_feed _) rfl, trivial⟩ (by simp) ?_
  refine a_op rfl (o_mv rfl) ?_
  refine a_op rfl (o_ex rfl rfl) ?_
  refine a_op rfl (o_ex rfl rfl) ?_
  refine a_op rfl (o_al (N := 6) tz60 rfl rfl rfl) ?_
  refine a_op0 rfl (o_st (N := 4) tn60 rfl rfl rfl rfl rfl) ?_
  refine a_op rfl (o_as rfl) ?_
  refine a_nil ?_
  refine tq_n ?_
  refine awp_seq ?_
  refine w_reg (l := r9_8.toList) rfl r9_8_ok ?_
  refine a_op rfl (o_mv rfl) ?_
  refine a_op rfl (o_mv rfl) ?_
  refine a_lendF (vs' := [rowAV cs, .raw (.int .i64 0), .sl 2 fL (manyF.map feedAV)]) rfl rfl rfl cb29 (run_r _ cs (by omega) _ _ manyF manyF_le (runF_bad hrt (by omega) (wrongF_many manyF_lt) (by decide))) ⟨ln_eq (by simp) rfl, ln_eq (by simp) rfl, ln_slo (i := 2) rfl manyF_e (pu_feed _) rfl, trivial⟩ (by simp) ?_
  refine a_op rfl (o_mv rfl) ?_
  refine a_op rfl (o_ex rfl rfl) ?_
  refine a_op rfl (o_ex rfl rfl) ?_
  refine a_op rfl (o_al (N := 7) tz60 rfl rfl rfl) ?_
  refine a_op0 rfl (o_st (N := 4) tn60 rfl rfl rfl rfl rfl) ?_
  refine a_op rfl (o_as rfl) ?_
  refine a_nil ?_
  refine tq_n ?_
  refine awp_seq ?_
  refine w_reg (l := r9_9.toList) rfl r9_9_ok ?_
  refine a_op rfl (o_mv rfl) ?_
  refine a_op rfl (o_mv rfl) ?_
  refine a_lendF (vs' := [rowAV cs, .raw (.int .i64 1000), .sl 2 fL ((badL L).map feedAV)]) rfl rfl rfl cb29 (run_r _ cs (by omega) _ _ (badL L) (by simp [badL]; omega) (runF_bad hrt (by omega) (badL_bad (by omega)) (by decide))) ⟨ln_eq (by simp) rfl, ln_eq (by simp) rfl, ln_slo (i := 1) rfl (by simp [badL]) (pu_feed _) rfl, trivial⟩ (by simp) ?_
  refine a_op rfl (o_mv rfl) ?_
  refine a_op rfl (o_ex rfl rfl) ?_
  refine a_op rfl (o_ex rfl rfl) ?_
  refine a_op rfl (o_al (N := 8) tz60 rfl rfl rfl) ?_
  refine a_op0 rfl (o_st (N := 4) tn60 rfl rfl rfl rfl rfl) ?_
  refine a_op rfl (o_as rfl) ?_
  refine a_nil ?_
  refine tq_n ?_
  refine awp_seq ?_
  refine w_reg (l := r9_10.toList) rfl r9_10_ok ?_
  refine a_op rfl (o_mv rfl) ?_
  refine a_lendF (vs' := [.sl 1 false (([] : List Int).map intAV), .sl 2 fL (manyF.map feedAV)]) rfl rfl rfl cb33 (need_r _ [] (by simp) _ manyF manyF_le (needF_caps rfl)) ⟨ln_nil (by decide), ln_slo (i := 2) rfl manyF_e (pu_feed _) rfl, trivial⟩ (by simp) ?_
  refine a_op rfl (o_mv rfl) ?_
  refine a_op rfl (o_ex rfl rfl) ?_
  refine a_op rfl (o_ex rfl rfl) ?_
  refine a_op rfl (o_as rfl) ?_
  refine a_op rfl (o_as rfl) ?_
  refine a_nil ?_
  refine tq_n ?_
  refine awp_seq ?_
  refine w_reg (l := r9_11.toList) rfl r9_11_ok ?_
  refine a_op rfl (o_mv rfl) ?_
  refine a_op rfl (o_mv rfl) ?_
  refine a_lendF (vs' := [rowAV cs, .sl 2 fL (manyF.map feedAV)]) rfl rfl rfl cb33 (need_r _ cs (by omega) _ manyF manyF_le (needF_bad hrt (wrongF_many manyF_lt) (by decide))) ⟨ln_eq (by simp) rfl, ln_slo (i := 2) rfl manyF_e (pu_feed _) rfl, trivial⟩ (by simp) ?_
  refine a_op rfl (o_mv rfl) ?_
  refine a_op rfl (o_ex rfl rfl) ?_
  refine a_op rfl (o_ex rfl rfl) ?_
  refine a_op rfl (o_as rfl) ?_
  refine a_op rfl (o_as rfl) ?_
  refine a_nil ?_
  refine tq_n ?_
  refine awp_seq ?_
  refine w_reg (l := r9_12.toList) rfl r9_12_ok ?_
  refine a_op rfl (o_mv rfl) ?_
  refine a_op rfl (o_mv rfl) ?_
  refine a_lendF (vs' := [rowAV cs, .sl 2 fL ((badL L).map feedAV)]) rfl rfl rfl cb33 (need_r _ cs (by omega) _ (badL L) (by simp [badL]; omega) (needF_bad hrt (badL_bad (by omega)) (by decide))) ⟨ln_eq (by simp) rfl, ln_slo (i := 1) rfl (by simp [badL]) (pu_feed _) rfl, trivial⟩ (by simp) ?_
  refine a_op rfl (o_mv rfl) ?_
  refine a_op rfl (o_ex rfl rfl) ?_
  refine a_op rfl (o_ex rfl rfl) ?_
  refine a_op rfl (o_as rfl) ?_
  refine a_op rfl (o_as rfl) ?_
  refine a_nil ?_
  refine tq_n ?_
  refine awp_seq ?_
  refine awp_seq ?_
  refine w_reg (l := r9_13.toList) rfl r9_13_ok ?_
  refine a_op rfl (o_mv rfl) ?_
  refine a_op rfl (elD (o_ne rfl rfl) (w := .raw (.bool false)) rfl) ?_
  refine a_op rfl (o_mv rfl) ?_
  refine a_op rfl (o_mv rfl) ?_
  refine a_op rfl (elD (o_ne rfl rfl) (w := .raw (.bool false)) rfl) ?_
  refine a_op rfl (o_pkf rfl rfl) ?_
  refine a_op rfl (o_mv rfl) ?_
  refine a_op rfl (o_mv rfl) ?_
  refine a_op rfl (elD (o_ne rfl rfl) (w := .raw (.bool false)) rfl) ?_
  refine a_op rfl (o_pkf rfl rfl) ?_
  refine a_op rfl (o_mv rfl) ?_
  refine a_op rfl (o_mv rfl) ?_
  refine a_op rfl (elD (o_ne rfl rfl) (w := .raw (.bool false)) rfl) ?_
  refine a_op rfl (o_pkf rfl rfl) ?_
  refine a_op rfl (o_mv rfl) ?_
  refine a_op rfl (o_mv rfl) ?_
  refine a_op rfl (elD (o_ne rfl rfl) (w := .raw (.bool false)) rfl) ?_
  refine a_op rfl (o_pkf rfl rfl) ?_
  refine a_op rfl (o_mv rfl) ?_
  refine a_op rfl (o_mv rfl) ?_
  refine a_op rfl (elD (o_ne rfl rfl) (w := .raw (.bool false)) rfl) ?_
  refine a_op rfl (o_pkf rfl rfl) ?_
  refine a_op rfl (o_mv rfl) ?_
  refine a_op rfl (o_mv rfl) ?_
  refine a_op rfl (elD (o_ne rfl rfl) (w := .raw (.bool false)) rfl) ?_
  refine a_op rfl (o_pkf rfl rfl) ?_
  refine a_op rfl (o_mv rfl) ?_
  refine a_op rfl (o_mv rfl) ?_
  refine a_op rfl (elD (o_ne rfl rfl) (w := .raw (.bool false)) rfl) ?_
  refine a_op rfl (o_pkf rfl rfl) ?_
  refine a_nil ?_
  refine tq_n ?_
  refine w_false rfl ?_
  refine awp_skip ?_
  refine tq_n ?_
  refine awp_seq ?_
  refine awp_seq ?_
  refine w_view [(5, .ptr 0 0), (7, rowAV cs), (8, .sl 2 false (L.map feedAV))] [.var [.sl 1 b.b0 (x.vols.map u8AV), .sl 1 b.b1 (x.caps.map u8AV), .sl 1 b.b2 (x.picks.map u8AV), .sl 1 b.b3 (x.unread.map u8AV), .raw (.int .u8 x.sweeps)]] 1 rfl (Nat.le_of_ble_eq_true rfl) (Nat.le_of_ble_eq_true rfl) ⟨⟨_, rfl, (by first | exact .mpK (Nat.le_of_ble_eq_true rfl) | exact .sloK (Nat.le_of_ble_eq_true rfl) | exact .ptrK (Nat.le_of_ble_eq_true rfl) | exact rs_pur (by simp) rfl)⟩, ⟨_, rfl, (by first | exact .mpK (Nat.le_of_ble_eq_true rfl) | exact .sloK (Nat.le_of_ble_eq_true rfl) | exact .ptrK (Nat.le_of_ble_eq_true rfl) | exact rs_pur (by simp) rfl)⟩, ⟨_, rfl, (by first | exact .mpK (Nat.le_of_ble_eq_true rfl) | exact .sloK (Nat.le_of_ble_eq_true rfl) | exact .ptrK (Nat.le_of_ble_eq_true rfl) | exact rs_pur (by simp) rfl)⟩, trivial⟩ ⟨ors_var ⟨rs_pur (by simp) rfl, rs_pur (by simp) rfl, rs_pur (by simp) rfl, rs_pur (by simp) rfl, rs_pur (by simp) rfl, trivial⟩, trivial⟩ ?_
  refine w_reg (l := r9_15.toList) rfl r9_15_ok ?_
  refine a_op rfl (o_mv rfl) ?_
  refine a_op rfl (o_len rfl rfl (by first | exact List.length_map .. | rfl) tl68) ?_
  refine a_op rfl (o_mv rfl) ?_
  refine a_nil ?_
  refine tq_n ?_
  refine awp_block ?_
  refine w_loop (fun k : Nat => k ≤ L.length) (fun k => [(5, .ptr 0 0), (7, rowAV cs), (8, .sl 2 false (L.map feedAV)), (130, .raw (.int .i64 ((L.length : Nat) : Int))), (131, .raw (.int .i64 ((k : Nat) : Int)))]) (fun _ => [.var [.sl 1 b.b0 (x.vols.map u8AV), .sl 1 b.b1 (x.caps.map u8AV), .sl 1 b.b2 (x.picks.map u8AV), .sl 1 b.b3 (x.unread.map u8AV), .raw (.int .u8 x.sweeps)]]) (fun k => L.length - k) (0) (by simp) ⟨(by first | exact sub_int rfl (by omega) | rfl | exact sub_eq rfl (by simp only [four, getDg hk, getDg hk0]; rfl)), (by first | exact sub_int rfl (by omega) | rfl | exact sub_eq rfl (by simp only [four, getDg hk, getDg hk0]; rfl)), (by first | exact sub_int rfl (by omega) | rfl | exact sub_eq rfl (by simp only [four, getDg hk, getDg hk0]; rfl)), (by first | exact sub_int rfl (by omega) | rfl | exact sub_eq rfl (by simp only [four, getDg hk, getDg hk0]; rfl)), (by first | exact sub_int rfl (by omega) | rfl | exact sub_eq rfl (by simp only [four, getDg hk, getDg hk0]; rfl)), trivial⟩ rfl ?_
  intro k hpk
  unfold b9_1
  refine awp_seq ?_
  refine w_reg (l := r9_16.toList) rfl r9_16_ok ?_
  refine a_if rfl (o_lt rfl rfl) (fun h1 => ?_) (fun h2 => ?_)
  · refine a_nil ?_
    refine tq_n ?_
    refine awp_seq ?_
    refine w_true rfl ?_
    refine awp_skip ?_
    refine tq_n ?_
    refine awp_seq ?_
    refine awp_block ?_
    refine awp_seq ?_
    refine w_reg (l := r9_17.toList) rfl r9_17_ok ?_
    refine a_op rfl (o_mv rfl) ?_
    refine a_op rfl (o_as rfl) ?_
    refine a_nil ?_
    refine tq_n ?_
    refine awp_seq ?_
    have hk : k < L.length := by omega
    have hk0 : 0 < L.length := by omega
    refine awp_draw ⟨[[], [], [0, 1], [0, 1, 2], [0, 1, 2, 3], [], [5], [0, 1, 2, 3, 4, 5, 6], [], [], [8, 9], [8, 9, 10], [8, 9, 10, 11], [8, 9, 10, 11, 12], [], [14], [14, 15], [14, 15, 16], [14, 15, 16, 17], [], [0, 1, 2, 3, 4, 5, 6, 7, 8, 9, 10, 11, 12, 13, 14, 15, 16, 17, 18, 19], [0, 1, 2, 3, 4, 5, 6, 7, 8, 9, 10, 11, 12, 13, 14, 15, 16, 17, 18, 19, 20], []], [[8], [27], [134, 135], [136], [137], [7], [139], [138, 140], [8], [27], [142, 143], [144], [145], [146], [8], [148], [149], [150], [151], [], [141, 147, 152, 153], [154], []], [[], [], [], [], [], [], [], [], [], [], [], [], [], [], [], [], [], [], [], [], [], [], []], [none, none, none, none, none, none, none, none, none, none, none, none, none, none, none, none, none, none, none, none, none, none, none]⟩ mo r9_18_ok (by decide +kernel) (l := r9_18.toList) rfl ?_
    refine d_op rfl rfl rfl (fun _ => o_mv rfl) ?_
    refine d_op rfl rfl rfl (fun _ => o_mv rfl) ?_
    refine d_op rfl rfl rfl (fun _ => o_ix te68 tn75 rfl rfl rfl (ixm _ _ _ hk)) ?_
    refine d_op rfl rfl rfl (fun _ => (by first | exact o_fa tf75_0 rfl rfl | exact o_fap tf75_0 rfl rfl)) ?_
    refine d_op rfl rfl rfl (fun _ => (by first | exact o_ld tg3 rfl rfl | exact o_ldp tg3 rfl rfl rfl rfl)) ?_
    refine d_op rfl rfl rfl (fun _ => o_mv rfl) ?_
    refine d_op rfl rfl rfl (fun _ => o_len rfl rfl (by first | exact List.length_map .. | rfl) tl34) ?_
    refine d_op rfl rfl rfl (fun _ => o_bd tz75 rfl tp75 rfl rfl) ?_
    refine d_op rfl rfl rfl (fun _ => o_mv rfl) ?_
    refine d_op rfl rfl rfl (fun _ => o_mv rfl) ?_
    refine d_op rfl rfl rfl (fun _ => o_ix te68 tn75 rfl rfl rfl (ixm _ _ _ hk)) ?_
    refine d_op rfl rfl rfl (fun _ => (by first | exact o_fa tf75_0 rfl rfl | exact o_fap tf75_0 rfl rfl)) ?_
    refine d_op rfl rfl rfl (fun _ => (by first | exact o_ld tg3 rfl rfl | exact o_ldp tg3 rfl rfl rfl rfl)) ?_
    refine d_op rfl rfl rfl (fun _ => o_bd tz75 rfl tp75 rfl rfl) ?_
    refine d_op rfl rfl rfl (fun _ => o_mv rfl) ?_
    refine d_op rfl rfl rfl (fun _ => o_ix te68 tn75 rfl rfl rfl (ixm _ _ _ hk0)) ?_
    refine d_op rfl rfl rfl (fun _ => (by first | exact o_fa tf75_0 rfl rfl | exact o_fap tf75_0 rfl rfl)) ?_
    refine d_op rfl rfl rfl (fun _ => (by first | exact o_ld tg3 rfl rfl | exact o_ldp tg3 rfl rfl rfl rfl)) ?_
    refine d_op rfl rfl rfl (fun _ => o_bd tz75 rfl tp75 rfl rfl) ?_
    refine d_op rfl rfl rfl (fun _ => o_bd tz75 rfl tp75 rfl rfl) ?_
    refine d_op rfl rfl rfl (fun _ => o_bs tE68 (by decide) rfl rfl rfl) ?_
    refine d_op rfl rfl rfl (fun _ => o_len rfl rfl (by first | exact List.length_map .. | rfl) tl68) ?_
    refine d_op rfl rfl rfl (fun _ => o_mv rfl) ?_
    refine d_nil ?_
    refine tq_n ?_
    refine awp_block ?_
    refine w_loop (fun j : Nat => j ≤ 4) (fun j => [(5, .ptr 0 0), (7, rowAV cs), (8, .sl 2 false (L.map feedAV)), (130, .raw (.int .i64 ((L.length : Nat) : Int))), (131, .raw (.int .i64 ((k : Nat) : Int))), (27, .raw (.int .i64 ((k : Nat) : Int))), (154, .sl 2 true ((four cs L k).map feedAV)), (155, .raw (.int .i64 ((4 : Nat) : Int))), (156, .raw (.int .i64 ((j : Nat) : Int)))]) (fun _ => [.var [.sl 1 b.b0 (x.vols.map u8AV), .sl 1 b.b1 (x.caps.map u8AV), .sl 1 b.b2 (x.picks.map u8AV), .sl 1 b.b3 (x.unread.map u8AV), .raw (.int .u8 x.sweeps)]]) (fun j => 4 - j) (0) (by simp) ⟨(by first | exact sub_int rfl (by omega) | rfl | exact sub_eq rfl (by simp only [four, getDg hk, getDg hk0]; rfl)), (by first | exact sub_int rfl (by omega) | rfl | exact sub_eq rfl (by simp only [four, getDg hk, getDg hk0]; rfl)), (by first | exact sub_int rfl (by omega) | rfl | exact sub_eq rfl (by simp only [four, getDg hk, getDg hk0]; rfl)), (by first | exact sub_int rfl (by omega) | rfl | exact sub_eq rfl (by simp only [four, getDg hk, getDg hk0]; rfl)), (by first | exact sub_int rfl (by omega) | rfl | exact sub_eq rfl (by simp only [four, getDg hk, getDg hk0]; rfl)), (by first | exact sub_int rfl (by omega) | rfl | exact sub_eq rfl (by simp only [four, getDg hk, getDg hk0]; rfl)), (by first | exact sub_int rfl (by omega) | rfl | exact sub_eq rfl (by simp only [four, getDg hk, getDg hk0]; rfl)), (by first | exact sub_int rfl (by omega) | rfl | exact sub_eq rfl (by simp only [four, getDg hk, getDg hk0]; rfl)), (by first | exact sub_int rfl (by omega) | rfl | exact sub_eq rfl (by simp only [four, getDg hk, getDg hk0]; rfl)), trivial⟩ rfl ?_
    intro j hpj
    unfold b9_0
    refine awp_seq ?_
    refine w_reg (l := r9_19.toList) rfl r9_19_ok ?_
    refine a_if rfl (o_lt rfl rfl) (fun h3 => ?_) (fun h4 => ?_)
    · refine a_nil ?_
      refine tq_n ?_
      refine awp_seq ?_
      refine w_true rfl ?_
      refine awp_skip ?_
      refine tq_n ?_
      refine awp_seq ?_
      refine awp_block ?_
      refine awp_seq ?_
      have hj : j < (four cs L k).length := by have h4 : (four cs L k).length = 4 := rfl; omega
      obtain ⟨y, hy⟩ : ∃ y, y = (four cs L k)[j] := ⟨_, rfl⟩
      have hix : ((four cs L k).map feedAV)[j]? = some (feedAV y) := by rw [hy]; exact ixm _ _ _ hj
      refine w_reg (l := r9_20.toList) rfl r9_20_ok ?_
      refine a_op rfl (o_ix te68 tn75 rfl rfl rfl hix) ?_
      refine a_op rfl ((by first | exact o_ldg tg75 tn75 rfl rfl | exact o_ldpg tg75 tn75 rfl rfl rfl rfl)) ?_
      refine a_op rfl (o_al (N := 1) tz75 rfl rfl rfl) ?_
      refine a_op0 rfl (o_st (N := 1) tn75 rfl rfl rfl rfl rfl) ?_
      refine a_nil ?_
      refine tq_n ?_
      refine awp_seq ?_
      refine awp_seq ?_
      refine awp_draw ⟨[[], [0], [0, 1], [0, 1, 2], [0, 1, 2, 3], [0, 1, 2], [0, 1, 2, 5], [0, 1, 2, 5, 6], [0, 1, 2, 5, 6, 7], [0, 1, 2, 3, 4, 5, 6, 7, 8], [0, 1, 2, 3, 4, 5, 6, 7, 8, 9], [0, 1, 2, 3, 4, 5, 6, 7, 8, 9, 10], [0, 1, 2, 3, 4, 5, 6, 7, 8, 9, 10, 11], [0, 1, 2, 3, 4, 5, 6, 7, 8, 9, 10, 11, 12], [0, 1, 2, 3, 4, 5, 6, 7, 8, 9, 10, 11, 12, 13], [0, 1, 2, 3, 4, 5, 6, 7, 8, 9, 10, 11, 12, 13, 14]], [[27], [160], [161], [29, 162], [162, 163], [8, 162], [162, 165], [162, 166], [162, 167], [162, 164, 168], [162, 169], [170], [29, 171], [171, 172], [171, 173], [171, 174]], [[], [], [], [], [1], [], [], [], [], [], [], [], [], [1], [], []], [none, none, none, none, none, none, none, none, none, none, none, none, none, none, none, none]⟩ mo r9_21_ok (by decide +kernel) (l := r9_21.toList) rfl ?_
      refine d_op rfl rfl rfl (fun _ => o_mv rfl) ?_
      refine d_if rfl rfl rfl (fun _ => o_eq rfl rfl) (fun h5 => ?_) (fun h6 => ?_)
      · refine d_op rfl rfl rfl (fun _ => o_mv rfl) ?_
        refine d_op rfl rfl rfl (fun _ => (by first | exact o_fa tf75_0 rfl rfl | exact o_fap tf75_0 rfl rfl)) ?_
        refine d_op rfl rfl rfl (fun _ => (by first | exact o_ld tg3 rfl rfl | exact o_ldp tg3 rfl rfl rfl rfl)) ?_
        refine d_op rfl rfl rfl (fun _ => o_mv rfl) ?_
        refine d_op rfl rfl rfl (fun _ => o_ix te68 tn75 rfl rfl rfl (ixm _ _ _ hk0)) ?_
        refine d_op rfl rfl rfl (fun _ => (by first | exact o_fa tf75_0 rfl rfl | exact o_fap tf75_0 rfl rfl)) ?_
        refine d_op rfl rfl rfl (fun _ => (by first | exact o_ld tg3 rfl rfl | exact o_ldp tg3 rfl rfl rfl rfl)) ?_
        refine d_if rfl rfl rfl (fun _ => o_eq rfl rfl) (fun h7 => ?_) (fun h8 => ?_)
        · refine d_op rfl rfl rfl (fun _ => o_pkt rfl rfl) ?_
          refine d_op rfl rfl rfl (fun _ => o_mv rfl) ?_
          refine d_op rfl rfl rfl (fun _ => (by first | exact o_fa tf75_1 rfl rfl | exact o_fap tf75_1 rfl rfl)) ?_
          refine d_op rfl rfl rfl (fun _ => (by first | exact o_ld tg3 rfl rfl | exact o_ldp tg3 rfl rfl rfl rfl)) ?_
          refine d_if rfl rfl rfl (fun _ => o_eq rfl rfl) (fun h9 => ?_) (fun h10 => ?_)
          · refine d_op rfl rfl rfl (fun _ => o_pkt rfl rfl) ?_
            refine d_nil ?_
            refine tq_n ?_
            refine w_true rfl ?_
            refine awp_exit ?_
            refine tq_x ?_
            refine bq_hit ?_
            refine tq_n ?_
            refine w_view [(5, .ptr 0 0), (7, rowAV cs), (8, .sl 2 false (L.map feedAV)), (130, .raw (.int .i64 ((L.length : Nat) : Int))), (131, .raw (.int .i64 ((k : Nat) : Int))), (27, .raw (.int .i64 ((k : Nat) : Int))), (154, .sl 2 true ((four cs L k).map feedAV)), (155, .raw (.int .i64 ((4 : Nat) : Int))), (156, .raw (.int .i64 ((j : Nat) : Int)))] [.var [.sl 1 b.b0 (x.vols.map u8AV), .sl 1 b.b1 (x.caps.map u8AV), .sl 1 b.b2 (x.picks.map u8AV), .sl 1 b.b3 (x.unread.map u8AV), .raw (.int .u8 x.sweeps)]] 1 rfl (Nat.le_of_ble_eq_true rfl) (Nat.le_of_ble_eq_true rfl) ⟨⟨_, rfl, (by first | exact .mpK (Nat.le_of_ble_eq_true rfl) | exact .sloK (Nat.le_of_ble_eq_true rfl) | exact .ptrK (Nat.le_of_ble_eq_true rfl) | exact rs_pur (by simp) rfl)⟩, ⟨_, rfl, (by first | exact .mpK (Nat.le_of_ble_eq_true rfl) | exact .sloK (Nat.le_of_ble_eq_true rfl) | exact .ptrK (Nat.le_of_ble_eq_true rfl) | exact rs_pur (by simp) rfl)⟩, ⟨_, rfl, (by first | exact .mpK (Nat.le_of_ble_eq_true rfl) | exact .sloK (Nat.le_of_ble_eq_true rfl) | exact .ptrK (Nat.le_of_ble_eq_true rfl) | exact rs_pur (by simp) rfl)⟩, ⟨_, rfl, (by first | exact .mpK (Nat.le_of_ble_eq_true rfl) | exact .sloK (Nat.le_of_ble_eq_true rfl) | exact .ptrK (Nat.le_of_ble_eq_true rfl) | exact rs_pur (by simp) rfl)⟩, ⟨_, rfl, (by first | exact .mpK (Nat.le_of_ble_eq_true rfl) | exact .sloK (Nat.le_of_ble_eq_true rfl) | exact .ptrK (Nat.le_of_ble_eq_true rfl) | exact rs_pur (by simp) rfl)⟩, ⟨_, rfl, (by first | exact .mpK (Nat.le_of_ble_eq_true rfl) | exact .sloK (Nat.le_of_ble_eq_true rfl) | exact .ptrK (Nat.le_of_ble_eq_true rfl) | exact rs_pur (by simp) rfl)⟩, ⟨_, rfl, (by first | exact .mpK (Nat.le_of_ble_eq_true rfl) | exact .sloK (Nat.le_of_ble_eq_true rfl) | exact .ptrK (Nat.le_of_ble_eq_true rfl) | exact rs_pur (by simp) rfl)⟩, ⟨_, rfl, (by first | exact .mpK (Nat.le_of_ble_eq_true rfl) | exact .sloK (Nat.le_of_ble_eq_true rfl) | exact .ptrK (Nat.le_of_ble_eq_true rfl) | exact rs_pur (by simp) rfl)⟩, ⟨_, rfl, (by first | exact .mpK (Nat.le_of_ble_eq_true rfl) | exact .sloK (Nat.le_of_ble_eq_true rfl) | exact .ptrK (Nat.le_of_ble_eq_true rfl) | exact rs_pur (by simp) rfl)⟩, trivial⟩ ⟨ors_var ⟨rs_pur (by simp) rfl, rs_pur (by simp) rfl, rs_pur (by simp) rfl, rs_pur (by simp) rfl, rs_pur (by simp) rfl, trivial⟩, trivial⟩ ?_
            refine w_reg (l := r9_27.toList) rfl r9_27_ok ?_
            refine a_op rfl (o_add rfl rfl (by simp only [klo, khi]; omega)) ?_
            refine a_op rfl (o_mv rfl) ?_
            refine a_nil ?_
            refine tq_n ?_
            exact ⟨j + 1, ⟨by omega, by omega⟩, ⟨(by first | exact sub_int rfl (by omega) | rfl | exact sub_eq rfl (by simp only [four, getDg hk, getDg hk0]; rfl)), (by first | exact sub_int rfl (by omega) | rfl | exact sub_eq rfl (by simp only [four, getDg hk, getDg hk0]; rfl)), (by first | exact sub_int rfl (by omega) | rfl | exact sub_eq rfl (by simp only [four, getDg hk, getDg hk0]; rfl)), (by first | exact sub_int rfl (by omega) | rfl | exact sub_eq rfl (by simp only [four, getDg hk, getDg hk0]; rfl)), (by first | exact sub_int rfl (by omega) | rfl | exact sub_eq rfl (by simp only [four, getDg hk, getDg hk0]; rfl)), (by first | exact sub_int rfl (by omega) | rfl | exact sub_eq rfl (by simp only [four, getDg hk, getDg hk0]; rfl)), (by first | exact sub_int rfl (by omega) | rfl | exact sub_eq rfl (by simp only [four, getDg hk, getDg hk0]; rfl)), (by first | exact sub_int rfl (by omega) | rfl | exact sub_eq rfl (by simp only [four, getDg hk, getDg hk0]; rfl)), (by first | exact sub_int rfl (by omega) | rfl | exact sub_eq rfl (by simp only [four, getDg hk, getDg hk0]; rfl)), trivial⟩, rfl⟩
          refine d_op rfl rfl rfl (fun _ => o_pkt rfl rfl) ?_
          refine d_nil ?_
          refine tq_n ?_
          refine w_false rfl ?_
          refine awp_skip ?_
          refine tq_n ?_
          refine awp_seq ?_
          have hfb := four_bad hk (by omega) (y := y) (by rw [hy]; exact List.getElem_mem hj) (by rintro ⟨e1, e2, e3⟩; rw [getDg hk0] at e2; first | contradiction | omega)
          refine w_reg (l := r9_22.toList) rfl r9_22_ok ?_
          refine a_op rfl (o_bso (N := 2) tE68 (by decide) rfl rfl rfl rfl rfl) ?_
          refine a_op rfl (o_mv rfl) ?_
          refine a_op rfl (o_ap (out := L.map feedAV) (len' := L.length) tE68 rfl rfl (by simp) rfl rfl (by simp) (by simp <;> omega) (by simp <;> omega) rfl (by simp) (by simp) rfl) ?_
          refine a_op rfl (o_as rfl) ?_
          refine a_nil ?_
          refine tq_n ?_
          refine awp_seq ?_
          refine w_reg (l := r9_23.toList) rfl r9_23_ok ?_
          refine a_op rfl (o_mv rfl) ?_
          refine a_op rfl (o_mv rfl) ?_
          refine a_op rfl ((by first | exact o_ldg tg75 tn75 rfl rfl | exact o_ldpg tg75 tn75 rfl rfl rfl rfl)) ?_
          refine a_op rfl (o_ixo (j := k) te68 tn75 rfl rfl rfl rfl (by simpa using hk)) ?_
          refine a_opH0 rfl (o_stp (N := 1) (el := feedAV L[k]) tn75 rfl rfl rfl rfl rfl (by rw [Nat.zero_add]; exact mAt hk) rfl (Nat.le_refl _)) (H' := [.var [.sl 1 b.b0 (x.vols.map u8AV), .sl 1 b.b1 (x.caps.map u8AV), .sl 1 b.b2 (x.picks.map u8AV), .sl 1 b.b3 (x.unread.map u8AV), .raw (.int .u8 x.sweeps)], .var (feedAV y).cells, .vec 2 1 ((L.set k y).map feedAV)]) (by simp only [List.map_set, Nat.zero_add]; rfl) ?_
          refine a_nil ?_
          refine tq_n ?_
          refine awp_seq ?_
          refine w_reg (l := r9_24.toList) rfl r9_24_ok ?_
          refine a_op rfl (o_mv rfl) ?_
          refine a_op rfl (o_mv rfl) ?_
          refine a_lendF (vs' := [rowAV cs, .raw (.int .i64 0), .sl 2 fL ((L.set k y).map feedAV)]) rfl rfl rfl cb29 (run_r _ cs (by omega) _ _ (L.set k y) (by simp; omega) (runF_bad hrt (by omega) hfb (by decide))) ⟨ln_eq (by simp) rfl, ln_eq (by simp) rfl, ln_slo (i := 2) rfl (by simp) (pu_feed _) rfl, trivial⟩ (by simp) ?_
          refine a_op rfl (o_mv rfl) ?_
          refine a_op rfl (o_ex rfl rfl) ?_
          refine a_op rfl (o_ex rfl rfl) ?_
          refine a_op rfl (o_al (N := 3) tz60 rfl rfl rfl) ?_
          refine a_op0 rfl (o_st (N := 4) tn60 rfl rfl rfl rfl rfl) ?_
          refine a_op rfl (o_as rfl) ?_
          refine a_nil ?_
          refine tq_n ?_
          refine awp_seq ?_
          refine w_reg (l := r9_25.toList) rfl r9_25_ok ?_
          refine a_op rfl (o_mv rfl) ?_
          refine a_op rfl (elD (o_ne rfl rfl) (w := .raw (.bool false)) rfl) ?_
          refine a_nil ?_
          refine tq_n ?_
          refine w_false rfl ?_
          refine awp_skip ?_
          refine bq_n ?_
          refine tq_n ?_
          refine w_view [(5, .ptr 0 0), (7, rowAV cs), (8, .sl 2 false (L.map feedAV)), (130, .raw (.int .i64 ((L.length : Nat) : Int))), (131, .raw (.int .i64 ((k : Nat) : Int))), (27, .raw (.int .i64 ((k : Nat) : Int))), (154, .sl 2 true ((four cs L k).map feedAV)), (155, .raw (.int .i64 ((4 : Nat) : Int))), (156, .raw (.int .i64 ((j : Nat) : Int)))] [.var [.sl 1 b.b0 (x.vols.map u8AV), .sl 1 b.b1 (x.caps.map u8AV), .sl 1 b.b2 (x.picks.map u8AV), .sl 1 b.b3 (x.unread.map u8AV), .raw (.int .u8 x.sweeps)]] 1 rfl (Nat.le_of_ble_eq_true rfl) (Nat.le_of_ble_eq_true rfl) ⟨⟨_, rfl, (by first | exact .mpK (Nat.le_of_ble_eq_true rfl) | exact .sloK (Nat.le_of_ble_eq_true rfl) | exact .ptrK (Nat.le_of_ble_eq_true rfl) | exact rs_pur (by simp) rfl)⟩, ⟨_, rfl, (by first | exact .mpK (Nat.le_of_ble_eq_true rfl) | exact .sloK (Nat.le_of_ble_eq_true rfl) | exact .ptrK (Nat.le_of_ble_eq_true rfl) | exact rs_pur (by simp) rfl)⟩, ⟨_, rfl, (by first | exact .mpK (Nat.le_of_ble_eq_true rfl) | exact .sloK (Nat.le_of_ble_eq_true rfl) | exact .ptrK (Nat.le_of_ble_eq_true rfl) | exact rs_pur (by simp) rfl)⟩, ⟨_, rfl, (by first | exact .mpK (Nat.le_of_ble_eq_true rfl) | exact .sloK (Nat.le_of_ble_eq_true rfl) | exact .ptrK (Nat.le_of_ble_eq_true rfl) | exact rs_pur (by simp) rfl)⟩, ⟨_, rfl, (by first | exact .mpK (Nat.le_of_ble_eq_true rfl) | exact .sloK (Nat.le_of_ble_eq_true rfl) | exact .ptrK (Nat.le_of_ble_eq_true rfl) | exact rs_pur (by simp) rfl)⟩, ⟨_, rfl, (by first | exact .mpK (Nat.le_of_ble_eq_true rfl) | exact .sloK (Nat.le_of_ble_eq_true rfl) | exact .ptrK (Nat.le_of_ble_eq_true rfl) | exact rs_pur (by simp) rfl)⟩, ⟨_, rfl, (by first | exact .mpK (Nat.le_of_ble_eq_true rfl) | exact .sloK (Nat.le_of_ble_eq_true rfl) | exact .ptrK (Nat.le_of_ble_eq_true rfl) | exact rs_pur (by simp) rfl)⟩, ⟨_, rfl, (by first | exact .mpK (Nat.le_of_ble_eq_true rfl) | exact .sloK (Nat.le_of_ble_eq_true rfl) | exact .ptrK (Nat.le_of_ble_eq_true rfl) | exact rs_pur (by simp) rfl)⟩, ⟨_, rfl, (by first | exact .mpK (Nat.le_of_ble_eq_true rfl) | exact .sloK (Nat.le_of_ble_eq_true rfl) | exact .ptrK (Nat.le_of_ble_eq_true rfl) | exact rs_pur (by simp) rfl)⟩, trivial⟩ ⟨ors_var ⟨rs_pur (by simp) rfl, rs_pur (by simp) rfl, rs_pur (by simp) rfl, rs_pur (by simp) rfl, rs_pur (by simp) rfl, trivial⟩, trivial⟩ ?_
          refine w_reg (l := r9_27.toList) rfl r9_27_ok ?_
          refine a_op rfl (o_add rfl rfl (by simp only [klo, khi]; omega)) ?_
          refine a_op rfl (o_mv rfl) ?_
          refine a_nil ?_
          refine tq_n ?_
          exact ⟨j + 1, ⟨by omega, by omega⟩, ⟨(by first | exact sub_int rfl (by omega) | rfl | exact sub_eq rfl (by simp only [four, getDg hk, getDg hk0]; rfl)), (by first | exact sub_int rfl (by omega) | rfl | exact sub_eq rfl (by simp only [four, getDg hk, getDg hk0]; rfl)), (by first | exact sub_int rfl (by omega) | rfl | exact sub_eq rfl (by simp only [four, getDg hk, getDg hk0]; rfl)), (by first | exact sub_int rfl (by omega) | rfl | exact sub_eq rfl (by simp only [four, getDg hk, getDg hk0]; rfl)), (by first | exact sub_int rfl (by omega) | rfl | exact sub_eq rfl (by simp only [four, getDg hk, getDg hk0]; rfl)), (by first | exact sub_int rfl (by omega) | rfl | exact sub_eq rfl (by simp only [four, getDg hk, getDg hk0]; rfl)), (by first | exact sub_int rfl (by omega) | rfl | exact sub_eq rfl (by simp only [four, getDg hk, getDg hk0]; rfl)), (by first | exact sub_int rfl (by omega) | rfl | exact sub_eq rfl (by simp only [four, getDg hk, getDg hk0]; rfl)), (by first | exact sub_int rfl (by omega) | rfl | exact sub_eq rfl (by simp only [four, getDg hk, getDg hk0]; rfl)), trivial⟩, rfl⟩
        refine d_op rfl rfl rfl (fun _ => o_pkt rfl rfl) ?_
        refine d_op rfl rfl rfl (fun _ => o_mv rfl) ?_
        refine d_off rfl rfl ?_
        refine d_off rfl rfl ?_
        refine d_off rfl rfl ?_
        refine d_op rfl rfl rfl (fun _ => o_pkf rfl rfl) ?_
        refine d_nil ?_
        refine tq_n ?_
        refine w_false rfl ?_
        refine awp_skip ?_
        refine tq_n ?_
        refine awp_seq ?_
        have hfb := four_bad hk (by omega) (y := y) (by rw [hy]; exact List.getElem_mem hj) (by rintro ⟨e1, e2, e3⟩; rw [getDg hk0] at e2; first | contradiction | omega)
        refine w_reg (l := r9_22.toList) rfl r9_22_ok ?_
        refine a_op rfl (o_bso (N := 2) tE68 (by decide) rfl rfl rfl rfl rfl) ?_
        refine a_op rfl (o_mv rfl) ?_
        refine a_op rfl (o_ap (out := L.map feedAV) (len' := L.length) tE68 rfl rfl (by simp) rfl rfl (by simp) (by simp <;> omega) (by simp <;> omega) rfl (by simp) (by simp) rfl) ?_
        refine a_op rfl (o_as rfl) ?_
        refine a_nil ?_
        refine tq_n ?_
        refine awp_seq ?_
        refine w_reg (l := r9_23.toList) rfl r9_23_ok ?_
        refine a_op rfl (o_mv rfl) ?_
        refine a_op rfl (o_mv rfl) ?_
        refine a_op rfl ((by first | exact o_ldg tg75 tn75 rfl rfl | exact o_ldpg tg75 tn75 rfl rfl rfl rfl)) ?_
        refine a_op rfl (o_ixo (j := k) te68 tn75 rfl rfl rfl rfl (by simpa using hk)) ?_
        refine a_opH0 rfl (o_stp (N := 1) (el := feedAV L[k]) tn75 rfl rfl rfl rfl rfl (by rw [Nat.zero_add]; exact mAt hk) rfl (Nat.le_refl _)) (H' := [.var [.sl 1 b.b0 (x.vols.map u8AV), .sl 1 b.b1 (x.caps.map u8AV), .sl 1 b.b2 (x.picks.map u8AV), .sl 1 b.b3 (x.unread.map u8AV), .raw (.int .u8 x.sweeps)], .var (feedAV y).cells, .vec 2 1 ((L.set k y).map feedAV)]) (by simp only [List.map_set, Nat.zero_add]; rfl) ?_
        refine a_nil ?_
        refine tq_n ?_
        refine awp_seq ?_
        refine w_reg (l := r9_24.toList) rfl r9_24_ok ?_
        refine a_op rfl (o_mv rfl) ?_
        refine a_op rfl (o_mv rfl) ?_
        refine a_lendF (vs' := [rowAV cs, .raw (.int .i64 0), .sl 2 fL ((L.set k y).map feedAV)]) rfl rfl rfl cb29 (run_r _ cs (by omega) _ _ (L.set k y) (by simp; omega) (runF_bad hrt (by omega) hfb (by decide))) ⟨ln_eq (by simp) rfl, ln_eq (by simp) rfl, ln_slo (i := 2) rfl (by simp) (pu_feed _) rfl, trivial⟩ (by simp) ?_
        refine a_op rfl (o_mv rfl) ?_
        refine a_op rfl (o_ex rfl rfl) ?_
        refine a_op rfl (o_ex rfl rfl) ?_
        refine a_op rfl (o_al (N := 3) tz60 rfl rfl rfl) ?_
        refine a_op0 rfl (o_st (N := 4) tn60 rfl rfl rfl rfl rfl) ?_
        refine a_op rfl (o_as rfl) ?_
        refine a_nil ?_
        refine tq_n ?_
        refine awp_seq ?_
        refine w_reg (l := r9_25.toList) rfl r9_25_ok ?_
        refine a_op rfl (o_mv rfl) ?_
        refine a_op rfl (elD (o_ne rfl rfl) (w := .raw (.bool false)) rfl) ?_
        refine a_nil ?_
        refine tq_n ?_
        refine w_false rfl ?_
        refine awp_skip ?_
        refine bq_n ?_
        refine tq_n ?_
        refine w_view [(5, .ptr 0 0), (7, rowAV cs), (8, .sl 2 false (L.map feedAV)), (130, .raw (.int .i64 ((L.length : Nat) : Int))), (131, .raw (.int .i64 ((k : Nat) : Int))), (27, .raw (.int .i64 ((k : Nat) : Int))), (154, .sl 2 true ((four cs L k).map feedAV)), (155, .raw (.int .i64 ((4 : Nat) : Int))), (156, .raw (.int .i64 ((j : Nat) : Int)))] [.var [.sl 1 b.b0 (x.vols.map u8AV), .sl 1 b.b1 (x.caps.map u8AV), .sl 1 b.b2 (x.picks.map u8AV), .sl 1 b.b3 (x.unread.map u8AV), .raw (.int .u8 x.sweeps)]] 1 rfl (Nat.le_of_ble_eq_true rfl) (Nat.le_of_ble_eq_true rfl) ⟨⟨_, rfl, (by first | exact .mpK (Nat.le_of_ble_eq_true rfl) | exact .sloK (Nat.le_of_ble_eq_true rfl) | exact .ptrK (Nat.le_of_ble_eq_true rfl) | exact rs_pur (by simp) rfl)⟩, ⟨_, rfl, (by first | exact .mpK (Nat.le_of_ble_eq_true rfl) | exact .sloK (Nat.le_of_ble_eq_true rfl) | exact .ptrK (Nat.le_of_ble_eq_true rfl) | exact rs_pur (by simp) rfl)⟩, ⟨_, rfl, (by first | exact .mpK (Nat.le_of_ble_eq_true rfl) | exact .sloK (Nat.le_of_ble_eq_true rfl) | exact .ptrK (Nat.le_of_ble_eq_true rfl) | exact rs_pur (by simp) rfl)⟩, ⟨_, rfl, (by first | exact .mpK (Nat.le_of_ble_eq_true rfl) | exact .sloK (Nat.le_of_ble_eq_true rfl) | exact .ptrK (Nat.le_of_ble_eq_true rfl) | exact rs_pur (by simp) rfl)⟩, ⟨_, rfl, (by first | exact .mpK (Nat.le_of_ble_eq_true rfl) | exact .sloK (Nat.le_of_ble_eq_true rfl) | exact .ptrK (Nat.le_of_ble_eq_true rfl) | exact rs_pur (by simp) rfl)⟩, ⟨_, rfl, (by first | exact .mpK (Nat.le_of_ble_eq_true rfl) | exact .sloK (Nat.le_of_ble_eq_true rfl) | exact .ptrK (Nat.le_of_ble_eq_true rfl) | exact rs_pur (by simp) rfl)⟩, ⟨_, rfl, (by first | exact .mpK (Nat.le_of_ble_eq_true rfl) | exact .sloK (Nat.le_of_ble_eq_true rfl) | exact .ptrK (Nat.le_of_ble_eq_true rfl) | exact rs_pur (by simp) rfl)⟩, ⟨_, rfl, (by first | exact .mpK (Nat.le_of_ble_eq_true rfl) | exact .sloK (Nat.le_of_ble_eq_true rfl) | exact .ptrK (Nat.le_of_ble_eq_true rfl) | exact rs_pur (by simp) rfl)⟩, ⟨_, rfl, (by first | exact .mpK (Nat.le_of_ble_eq_true rfl) | exact .sloK (Nat.le_of_ble_eq_true rfl) | exact .ptrK (Nat.le_of_ble_eq_true rfl) | exact rs_pur (by simp) rfl)⟩, trivial⟩ ⟨ors_var ⟨rs_pur (by simp) rfl, rs_pur (by simp) rfl, rs_pur (by simp) rfl, rs_pur (by simp) rfl, rs_pur (by simp) rfl, trivial⟩, trivial⟩ ?_
        refine w_reg (l := r9_27.toList) rfl r9_27_ok ?_
        refine a_op rfl (o_add rfl rfl (by simp only [klo, khi]; omega)) ?_
        refine a_op rfl (o_mv rfl) ?_
        refine a_nil ?_
        refine tq_n ?_
        exact ⟨j + 1, ⟨by omega, by omega⟩, ⟨(by first | exact sub_int rfl (by omega) | rfl | exact sub_eq rfl (by simp only [four, getDg hk, getDg hk0]; rfl)), (by first | exact sub_int rfl (by omega) | rfl | exact sub_eq rfl (by simp only [four, getDg hk, getDg hk0]; rfl)), (by first | exact sub_int rfl (by omega) | rfl | exact sub_eq rfl (by simp only [four, getDg hk, getDg hk0]; rfl)), (by first | exact sub_int rfl (by omega) | rfl | exact sub_eq rfl (by simp only [four, getDg hk, getDg hk0]; rfl)), (by first | exact sub_int rfl (by omega) | rfl | exact sub_eq rfl (by simp only [four, getDg hk, getDg hk0]; rfl)), (by first | exact sub_int rfl (by omega) | rfl | exact sub_eq rfl (by simp only [four, getDg hk, getDg hk0]; rfl)), (by first | exact sub_int rfl (by omega) | rfl | exact sub_eq rfl (by simp only [four, getDg hk, getDg hk0]; rfl)), (by first | exact sub_int rfl (by omega) | rfl | exact sub_eq rfl (by simp only [four, getDg hk, getDg hk0]; rfl)), (by first | exact sub_int rfl (by omega) | rfl | exact sub_eq rfl (by simp only [four, getDg hk, getDg hk0]; rfl)), trivial⟩, rfl⟩
      refine d_op rfl rfl rfl (fun _ => o_mv rfl) ?_
      refine d_off rfl rfl ?_
      refine d_off rfl rfl ?_
      refine d_off rfl rfl ?_
      refine d_off rfl rfl ?_
      refine d_off rfl rfl ?_
      refine d_off rfl rfl ?_
      refine d_off rfl rfl ?_
      refine d_op rfl rfl rfl (fun _ => o_pkf rfl rfl) ?_
      refine d_op rfl rfl rfl (fun _ => o_mv rfl) ?_
      refine d_off rfl rfl ?_
      refine d_off rfl rfl ?_
      refine d_off rfl rfl ?_
      refine d_op rfl rfl rfl (fun _ => o_pkf rfl rfl) ?_
      refine d_nil ?_
      refine tq_n ?_
      refine w_false rfl ?_
      refine awp_skip ?_
      refine tq_n ?_
      refine awp_seq ?_
      have hfb := four_bad hk (by omega) (y := y) (by rw [hy]; exact List.getElem_mem hj) (by rintro ⟨e1, e2, e3⟩; rw [getDg hk0] at e2; first | contradiction | omega)
      refine w_reg (l := r9_22.toList) rfl r9_22_ok ?_
      refine a_op rfl (o_bso (N := 2) tE68 (by decide) rfl rfl rfl rfl rfl) ?_
      refine a_op rfl (o_mv rfl) ?_
      refine a_op rfl (o_ap (out := L.map feedAV) (len' := L.length) tE68 rfl rfl (by simp) rfl rfl (by simp) (by simp <;> omega) (by simp <;> omega) rfl (by simp) (by simp) rfl) ?_
      refine a_op rfl (o_as rfl) ?_
      refine a_nil ?_
      refine tq_n ?_
      refine awp_seq ?_
      refine w_reg (l := r9_23.toList) rfl r9_23_ok ?_
      refine a_op rfl (o_mv rfl) ?_
      refine a_op rfl (o_mv rfl) ?_
      refine a_op rfl ((by first | exact o_ldg tg75 tn75 rfl rfl | exact o_ldpg tg75 tn75 rfl rfl rfl rfl)) ?_
      refine a_op rfl (o_ixo (j := k) te68 tn75 rfl rfl rfl rfl (by simpa using hk)) ?_
      refine a_opH0 rfl (o_stp (N := 1) (el := feedAV L[k]) tn75 rfl rfl rfl rfl rfl (by rw [Nat.zero_add]; exact mAt hk) rfl (Nat.le_refl _)) (H' := [.var [.sl 1 b.b0 (x.vols.map u8AV), .sl 1 b.b1 (x.caps.map u8AV), .sl 1 b.b2 (x.picks.map u8AV), .sl 1 b.b3 (x.unread.map u8AV), .raw (.int .u8 x.sweeps)], .var (feedAV y).cells, .vec 2 1 ((L.set k y).map feedAV)]) (by simp only [List.map_set, Nat.zero_add]; rfl) ?_
      refine a_nil ?_
      refine tq_n ?_
      refine awp_seq ?_
      refine w_reg (l := r9_24.toList) rfl r9_24_ok ?_
      refine a_op rfl (o_mv rfl) ?_
      refine a_op rfl (o_mv rfl) ?_
      refine a_lendF (vs' := [rowAV cs, .raw (.int .i64 0), .sl 2 fL ((L.set k y).map feedAV)]) rfl rfl rfl cb29 (run_r _ cs (by omega) _ _ (L.set k y) (by simp; omega) (runF_bad hrt (by omega) hfb (by decide))) ⟨ln_eq (by simp) rfl, ln_eq (by simp) rfl, ln_slo (i := 2) rfl (by simp) (pu_feed _) rfl, trivial⟩ (by simp) ?_
      refine a_op rfl (o_mv rfl) ?_
      refine a_op rfl (o_ex rfl rfl) ?_
      refine a_op rfl (o_ex rfl rfl) ?_
      refine a_op rfl (o_al (N := 3) tz60 rfl rfl rfl) ?_
      refine a_op0 rfl (o_st (N := 4) tn60 rfl rfl rfl rfl rfl) ?_
      refine a_op rfl (o_as rfl) ?_
      refine a_nil ?_
      refine tq_n ?_
      refine awp_seq ?_
      refine w_reg (l := r9_25.toList) rfl r9_25_ok ?_
      refine a_op rfl (o_mv rfl) ?_
      refine a_op rfl (elD (o_ne rfl rfl) (w := .raw (.bool false)) rfl) ?_
      refine a_nil ?_
      refine tq_n ?_
      refine w_false rfl ?_
      refine awp_skip ?_
      refine bq_n ?_
      refine tq_n ?_
      refine w_view [(5, .ptr 0 0), (7, rowAV cs), (8, .sl 2 false (L.map feedAV)), (130, .raw (.int .i64 ((L.length : Nat) : Int))), (131, .raw (.int .i64 ((k : Nat) : Int))), (27, .raw (.int .i64 ((k : Nat) : Int))), (154, .sl 2 true ((four cs L k).map feedAV)), (155, .raw (.int .i64 ((4 : Nat) : Int))), (156, .raw (.int .i64 ((j : Nat) : Int)))] [.var [.sl 1 b.b0 (x.vols.map u8AV), .sl 1 b.b1 (x.caps.map u8AV), .sl 1 b.b2 (x.picks.map u8AV), .sl 1 b.b3 (x.unread.map u8AV), .raw (.int .u8 x.sweeps)]] 1 rfl (Nat.le_of_ble_eq_true rfl) (Nat.le_of_ble_eq_true rfl) ⟨⟨_, rfl, (by first | exact .mpK (Nat.le_of_ble_eq_true rfl) | exact .sloK (Nat.le_of_ble_eq_true rfl) | exact .ptrK (Nat.le_of_ble_eq_true rfl) | exact rs_pur (by simp) rfl)⟩, ⟨_, rfl, (by first | exact .mpK (Nat.le_of_ble_eq_true rfl) | exact .sloK (Nat.le_of_ble_eq_true rfl) | exact .ptrK (Nat.le_of_ble_eq_true rfl) | exact rs_pur (by simp) rfl)⟩, ⟨_, rfl, (by first | exact .mpK (Nat.le_of_ble_eq_true rfl) | exact .sloK (Nat.le_of_ble_eq_true rfl) | exact .ptrK (Nat.le_of_ble_eq_true rfl) | exact rs_pur (by simp) rfl)⟩, ⟨_, rfl, (by first | exact .mpK (Nat.le_of_ble_eq_true rfl) | exact .sloK (Nat.le_of_ble_eq_true rfl) | exact .ptrK (Nat.le_of_ble_eq_true rfl) | exact rs_pur (by simp) rfl)⟩, ⟨_, rfl, (by first | exact .mpK (Nat.le_of_ble_eq_true rfl) | exact .sloK (Nat.le_of_ble_eq_true rfl) | exact .ptrK (Nat.le_of_ble_eq_true rfl) | exact rs_pur (by simp) rfl)⟩, ⟨_, rfl, (by first | exact .mpK (Nat.le_of_ble_eq_true rfl) | exact .sloK (Nat.le_of_ble_eq_true rfl) | exact .ptrK (Nat.le_of_ble_eq_true rfl) | exact rs_pur (by simp) rfl)⟩, ⟨_, rfl, (by first | exact .mpK (Nat.le_of_ble_eq_true rfl) | exact .sloK (Nat.le_of_ble_eq_true rfl) | exact .ptrK (Nat.le_of_ble_eq_true rfl) | exact rs_pur (by simp) rfl)⟩, ⟨_, rfl, (by first | exact .mpK (Nat.le_of_ble_eq_true rfl) | exact .sloK (Nat.le_of_ble_eq_true rfl) | exact .ptrK (Nat.le_of_ble_eq_true rfl) | exact rs_pur (by simp) rfl)⟩, ⟨_, rfl, (by first | exact .mpK (Nat.le_of_ble_eq_true rfl) | exact .sloK (Nat.le_of_ble_eq_true rfl) | exact .ptrK (Nat.le_of_ble_eq_true rfl) | exact rs_pur (by simp) rfl)⟩, trivial⟩ ⟨ors_var ⟨rs_pur (by simp) rfl, rs_pur (by simp) rfl, rs_pur (by simp) rfl, rs_pur (by simp) rfl, rs_pur (by simp) rfl, trivial⟩, trivial⟩ ?_
      refine w_reg (l := r9_27.toList) rfl r9_27_ok ?_
      refine a_op rfl (o_add rfl rfl (by simp only [klo, khi]; omega)) ?_
      refine a_op rfl (o_mv rfl) ?_
      refine a_nil ?_
      refine tq_n ?_
      exact ⟨j + 1, ⟨by omega, by omega⟩, ⟨(by first | exact sub_int rfl (by omega) | rfl | exact sub_eq rfl (by simp only [four, getDg hk, getDg hk0]; rfl)), (by first | exact sub_int rfl (by omega) | rfl | exact sub_eq rfl (by simp only [four, getDg hk, getDg hk0]; rfl)), (by first | exact sub_int rfl (by omega) | rfl | exact sub_eq rfl (by simp only [four, getDg hk, getDg hk0]; rfl)), (by first | exact sub_int rfl (by omega) | rfl | exact sub_eq rfl (by simp only [four, getDg hk, getDg hk0]; rfl)), (by first | exact sub_int rfl (by omega) | rfl | exact sub_eq rfl (by simp only [four, getDg hk, getDg hk0]; rfl)), (by first | exact sub_int rfl (by omega) | rfl | exact sub_eq rfl (by simp only [four, getDg hk, getDg hk0]; rfl)), (by first | exact sub_int rfl (by omega) | rfl | exact sub_eq rfl (by simp only [four, getDg hk, getDg hk0]; rfl)), (by first | exact sub_int rfl (by omega) | rfl | exact sub_eq rfl (by simp only [four, getDg hk, getDg hk0]; rfl)), (by first | exact sub_int rfl (by omega) | rfl | exact sub_eq rfl (by simp only [four, getDg hk, getDg hk0]; rfl)), trivial⟩, rfl⟩
    refine a_nil ?_
    refine tq_n ?_
    refine awp_seq ?_
    refine w_false rfl ?_
    refine awp_exit ?_
    refine tq_x ?_
    refine tq_x ?_
    refine bq_hit ?_
    refine bq_n ?_
    refine tq_n ?_
    refine w_reg (l := r9_28.toList) rfl r9_28_ok ?_
    refine a_op rfl (o_add rfl rfl (by simp only [klo, khi]; omega)) ?_
    refine a_op rfl (o_mv rfl) ?_
    refine a_nil ?_
    refine tq_n ?_
    exact ⟨k + 1, ⟨by omega, by omega⟩, ⟨(by first | exact sub_int rfl (by omega) | rfl | exact sub_eq rfl (by simp only [four, getDg hk, getDg hk0]; rfl)), (by first | exact sub_int rfl (by omega) | rfl | exact sub_eq rfl (by simp only [four, getDg hk, getDg hk0]; rfl)), (by first | exact sub_int rfl (by omega) | rfl | exact sub_eq rfl (by simp only [four, getDg hk, getDg hk0]; rfl)), (by first | exact sub_int rfl (by omega) | rfl | exact sub_eq rfl (by simp only [four, getDg hk, getDg hk0]; rfl)), (by first | exact sub_int rfl (by omega) | rfl | exact sub_eq rfl (by simp only [four, getDg hk, getDg hk0]; rfl)), trivial⟩, rfl⟩
  refine a_nil ?_
  refine tq_n ?_
  refine awp_seq ?_
  refine w_false rfl ?_
  refine awp_exit ?_
  refine tq_x ?_
  refine tq_x ?_
  refine bq_hit ?_
  refine tq_n ?_
  refine awp_seq ?_
  refine w_view [(5, .ptr 0 0)] [.var [.sl 1 b.b0 (x.vols.map u8AV), .sl 1 b.b1 (x.caps.map u8AV), .sl 1 b.b2 (x.picks.map u8AV), .sl 1 b.b3 (x.unread.map u8AV), .raw (.int .u8 x.sweeps)]] 1 rfl (Nat.le_of_ble_eq_true rfl) (Nat.le_of_ble_eq_true rfl) ⟨⟨_, rfl, (by first | exact .mpK (Nat.le_of_ble_eq_true rfl) | exact .sloK (Nat.le_of_ble_eq_true rfl) | exact .ptrK (Nat.le_of_ble_eq_true rfl) | exact rs_pur (by simp) rfl)⟩, trivial⟩ ⟨ors_var ⟨rs_pur (by simp) rfl, rs_pur (by simp) rfl, rs_pur (by simp) rfl, rs_pur (by simp) rfl, rs_pur (by simp) rfl, trivial⟩, trivial⟩ ?_
  refine w_reg (l := r9_29.toList) rfl r9_29_ok ?_
  refine a_op rfl ((by first | exact o_ldg tg82 tn82 rfl rfl | exact o_ldpg tg82 tn82 rfl rfl rfl rfl)) ?_
  by_cases hP : (planF x).2 = 0
  · obtain ⟨hmade, hst1, hst2, hrt⟩ := make_made (stops := stopsF x) (caps := capsF x) hP
    have hck : CheckOk (planF x).1 := hmade.ck
    have hd := itemsF_nodup x
    have hid := itemsF_in x
    have hll := itemsF_len x
    have hsx := hx.s
    unfold u8r at hsx
    obtain ⟨p, hp⟩ : ∃ p, p = (planF x).1 := ⟨_, rfl⟩
    obtain ⟨l, hl⟩ : ∃ l, l = itemsF x := ⟨_, rfl⟩
    rw [← hp] at hck
    rw [← hl] at hd hid hll
    obtain ⟨sw, hsw⟩ : ∃ sw : Int, sw = x.sweeps % 9 := ⟨_, rfl⟩
    have hsw0 : 0 ≤ sw ∧ sw ≤ 8 := by omega
    have hcl := rightF_caps hck
    have hsm := hck.m
    have hf1 := hck.l1
    have hf2 := hck.l2
    refine a_pure rfl rfl rfl cb34 (built_good b x hx hP) ?_
    rw [← hp, ← hl]
    refine a_op rfl (o_mv rfl) ?_
    refine a_op rfl (o_ex rfl rfl) ?_
    refine a_op rfl (o_ex rfl rfl) ?_
    refine a_op rfl (o_ex rfl rfl) ?_
    refine a_op rfl (o_al (N := 1) tz51 rfl rfl rfl) ?_
    refine a_op0 rfl (o_st (N := 3) tn51 rfl rfl rfl rfl rfl) ?_
    refine a_op rfl (o_as rfl) ?_
    refine a_op rfl (o_as rfl) ?_
    refine a_nil ?_
    refine tq_n ?_
    refine awp_seq ?_
    refine awp_seq ?_
    refine w_reg (l := r9_30.toList) rfl r9_30_ok ?_
    refine a_op rfl (o_mv rfl) ?_
    refine a_op rfl (o_ntt rfl) ?_
    refine a_nil ?_
    refine tq_n ?_
    refine w_false rfl ?_
    refine awp_skip ?_
    refine tq_n ?_
    refine awp_seq ?_
    refine w_reg (l := r9_32.toList) rfl r9_32_ok ?_
    refine a_op rfl (o_bd tz51 rfl tp51 rfl rfl) ?_
    refine a_op rfl (o_mv rfl) ?_
    refine a_lendF (vs' := [planAV b4F emptyP, .raw (.int .i64 (-1)), .sl 4 false (l.map itemAV)]) rfl rfl rfl cb26 (two_r b4F emptyP (by decide) (by decide) (by decide) (by decide) _ _ l (by omega) twoF_caps) ⟨ln_agg ⟨ln_nil (by decide), ln_nil (by decide), ln_nil (by decide), ln_nil (by decide), trivial⟩, ln_eq (by simp) rfl, ln_eq (by simp) rfl, trivial⟩ (by simp) ?_
    refine a_op rfl (o_mv rfl) ?_
    refine a_op rfl (o_ex rfl rfl) ?_
    refine a_op rfl (o_ex rfl rfl) ?_
    refine a_op rfl (o_as rfl) ?_
    refine a_nil ?_
    refine tq_n ?_
    refine awp_seq ?_
    refine w_view [(33, .ptr 1 0), (34, .sl 4 false (l.map itemAV)), (12, .raw (.int .i64 280))] [.var [.sl 1 b.b0 (x.vols.map u8AV), .sl 1 b.b1 (x.caps.map u8AV), .sl 1 b.b2 (x.picks.map u8AV), .sl 1 b.b3 (x.unread.map u8AV), .raw (.int .u8 x.sweeps)], .var (planC b4F p)] 2 rfl (Nat.le_of_ble_eq_true rfl) (Nat.le_of_ble_eq_true rfl) ⟨⟨_, rfl, (by first | exact .mpK (Nat.le_of_ble_eq_true rfl) | exact .sloK (Nat.le_of_ble_eq_true rfl) | exact .ptrK (Nat.le_of_ble_eq_true rfl) | exact rs_pur (by simp) rfl)⟩, ⟨_, rfl, (by first | exact .mpK (Nat.le_of_ble_eq_true rfl) | exact .sloK (Nat.le_of_ble_eq_true rfl) | exact .ptrK (Nat.le_of_ble_eq_true rfl) | exact rs_pur (by simp) rfl)⟩, ⟨_, rfl, (by first | exact .mpK (Nat.le_of_ble_eq_true rfl) | exact .sloK (Nat.le_of_ble_eq_true rfl) | exact .ptrK (Nat.le_of_ble_eq_true rfl) | exact rs_pur (by simp) rfl)⟩, trivial⟩ ⟨ors_var ⟨rs_pur (by simp) rfl, rs_pur (by simp) rfl, rs_pur (by simp) rfl, rs_pur (by simp) rfl, rs_pur (by simp) rfl, trivial⟩, ors_var ⟨rs_pur (by simp) rfl, rs_pur (by simp) rfl, rs_pur (by simp) rfl, rs_pur (by simp) rfl, trivial⟩, trivial⟩ ?_
    refine w_ph 4 (by decide) rfl ?_
    refine awp_draw ⟨[[], [], [0, 1], [0, 1, 2], [0, 1, 2, 3], [0, 1, 2, 3], [0, 1, 2, 3, 4, 5]], [[33], [], [209, 210], [211], [208], [208], [213]], [[1], [2], [2], [], [], [], []], [none, some 2, none, none, none, none, none]⟩ mo r9_33_ok (by decide +kernel) (l := r9_33.toList) rfl ?_
    refine d_op rfl rfl rfl (fun _ => (by first | exact o_ldg tg51 tn51 rfl rfl | exact o_ldpg tg51 tn51 rfl rfl rfl rfl)) ?_
    refine d_w rfl rfl rfl (fun _ => o_msD tE43 rfl rfl (by decide) (by decide) (by decide) (by decide) rfl) rfl rfl rfl ?_
    refine d_lendF (vs' := [planAV b4F p, .raw (.int .i64 (-1)), .sl 4 fL (manyI.map itemAV)]) rfl rfl rfl rfl rfl cb26 (two_r b4F p (by omega) (by omega) (by omega) (by omega) _ _ manyI (by first | exact manyI_le | (simp; omega)) (twoF_sw hck (by omega))) (fun _ => ⟨ln_eq (by simp) rfl, ln_eq (by simp) rfl, ln_slo (i := 2) rfl (by rw [List.length_replicate]) (pu_item _) (by rw [← map_manyI]; rfl), trivial⟩) (by simp) ?_
    refine d_op rfl rfl rfl (fun _ => o_mv rfl) ?_
    refine d_op rfl rfl rfl (fun _ => o_ex rfl rfl) ?_
    refine d_op rfl rfl rfl (fun _ => o_ex rfl rfl) ?_
    refine d_op rfl rfl rfl (fun _ => o_as rfl) ?_
    refine d_nil ?_
    refine tq_n ?_
    refine awp_seq ?_
    refine w_view [(33, .ptr 1 0), (34, .sl 4 false (l.map itemAV)), (12, .raw (.int .i64 280)), (14, .raw (.int .i64 2))] [.var [.sl 1 b.b0 (x.vols.map u8AV), .sl 1 b.b1 (x.caps.map u8AV), .sl 1 b.b2 (x.picks.map u8AV), .sl 1 b.b3 (x.unread.map u8AV), .raw (.int .u8 x.sweeps)], .var (planC b4F p)] 2 rfl (Nat.le_of_ble_eq_true rfl) (Nat.le_of_ble_eq_true rfl) ⟨⟨_, rfl, (by first | exact .mpK (Nat.le_of_ble_eq_true rfl) | exact .sloK (Nat.le_of_ble_eq_true rfl) | exact .ptrK (Nat.le_of_ble_eq_true rfl) | exact rs_pur (by simp) rfl)⟩, ⟨_, rfl, (by first | exact .mpK (Nat.le_of_ble_eq_true rfl) | exact .sloK (Nat.le_of_ble_eq_true rfl) | exact .ptrK (Nat.le_of_ble_eq_true rfl) | exact rs_pur (by simp) rfl)⟩, ⟨_, rfl, (by first | exact .mpK (Nat.le_of_ble_eq_true rfl) | exact .sloK (Nat.le_of_ble_eq_true rfl) | exact .ptrK (Nat.le_of_ble_eq_true rfl) | exact rs_pur (by simp) rfl)⟩, ⟨_, rfl, (by first | exact .mpK (Nat.le_of_ble_eq_true rfl) | exact .sloK (Nat.le_of_ble_eq_true rfl) | exact .ptrK (Nat.le_of_ble_eq_true rfl) | exact rs_pur (by simp) rfl)⟩, trivial⟩ ⟨ors_var ⟨rs_pur (by simp) rfl, rs_pur (by simp) rfl, rs_pur (by simp) rfl, rs_pur (by simp) rfl, rs_pur (by simp) rfl, trivial⟩, ors_var ⟨rs_pur (by simp) rfl, rs_pur (by simp) rfl, rs_pur (by simp) rfl, rs_pur (by simp) rfl, trivial⟩, trivial⟩ ?_
    refine w_ph 4 (by decide) rfl ?_
    refine awp_draw ⟨[[], [], [0, 1], [0, 1, 2], [0, 1, 2, 3], [0, 1, 2, 3], [0, 1, 2, 3, 4, 5]], [[33], [], [215, 216], [217], [214], [214], [219]], [[1], [2], [2], [], [], [], []], [none, some 2, none, none, none, none, none]⟩ mo r9_34_ok (by decide +kernel) (l := r9_34.toList) rfl ?_
    refine d_op rfl rfl rfl (fun _ => (by first | exact o_ldg tg51 tn51 rfl rfl | exact o_ldpg tg51 tn51 rfl rfl rfl rfl)) ?_
    refine d_w rfl rfl rfl (fun _ => o_msD tE43 rfl rfl (by decide) (by decide) (by decide) (by decide) rfl) rfl rfl rfl ?_
    refine d_lendF (vs' := [planAV b4F p, .raw (.int .i64 0), .sl 4 fL (manyI.map itemAV)]) rfl rfl rfl rfl rfl cb26 (two_r b4F p (by omega) (by omega) (by omega) (by omega) _ _ manyI (by first | exact manyI_le | (simp; omega)) (twoF_many hck (by omega) manyI_lt)) (fun _ => ⟨ln_eq (by simp) rfl, ln_eq (by simp) rfl, ln_slo (i := 2) rfl (by rw [List.length_replicate]) (pu_item _) (by rw [← map_manyI]; rfl), trivial⟩) (by simp) ?_
    refine d_op rfl rfl rfl (fun _ => o_mv rfl) ?_
    refine d_op rfl rfl rfl (fun _ => o_ex rfl rfl) ?_
    refine d_op rfl rfl rfl (fun _ => o_ex rfl rfl) ?_
    refine d_op rfl rfl rfl (fun _ => o_as rfl) ?_
    refine d_nil ?_
    refine tq_n ?_
    refine awp_seq ?_
    refine w_view [(33, .ptr 1 0), (34, .sl 4 false (l.map itemAV)), (12, .raw (.int .i64 280)), (14, .raw (.int .i64 2)), (16, .raw (.int .i64 5))] [.var [.sl 1 b.b0 (x.vols.map u8AV), .sl 1 b.b1 (x.caps.map u8AV), .sl 1 b.b2 (x.picks.map u8AV), .sl 1 b.b3 (x.unread.map u8AV), .raw (.int .u8 x.sweeps)], .var (planC b4F p)] 2 rfl (Nat.le_of_ble_eq_true rfl) (Nat.le_of_ble_eq_true rfl) ⟨⟨_, rfl, (by first | exact .mpK (Nat.le_of_ble_eq_true rfl) | exact .sloK (Nat.le_of_ble_eq_true rfl) | exact .ptrK (Nat.le_of_ble_eq_true rfl) | exact rs_pur (by simp) rfl)⟩, ⟨_, rfl, (by first | exact .mpK (Nat.le_of_ble_eq_true rfl) | exact .sloK (Nat.le_of_ble_eq_true rfl) | exact .ptrK (Nat.le_of_ble_eq_true rfl) | exact rs_pur (by simp) rfl)⟩, ⟨_, rfl, (by first | exact .mpK (Nat.le_of_ble_eq_true rfl) | exact .sloK (Nat.le_of_ble_eq_true rfl) | exact .ptrK (Nat.le_of_ble_eq_true rfl) | exact rs_pur (by simp) rfl)⟩, ⟨_, rfl, (by first | exact .mpK (Nat.le_of_ble_eq_true rfl) | exact .sloK (Nat.le_of_ble_eq_true rfl) | exact .ptrK (Nat.le_of_ble_eq_true rfl) | exact rs_pur (by simp) rfl)⟩, ⟨_, rfl, (by first | exact .mpK (Nat.le_of_ble_eq_true rfl) | exact .sloK (Nat.le_of_ble_eq_true rfl) | exact .ptrK (Nat.le_of_ble_eq_true rfl) | exact rs_pur (by simp) rfl)⟩, trivial⟩ ⟨ors_var ⟨rs_pur (by simp) rfl, rs_pur (by simp) rfl, rs_pur (by simp) rfl, rs_pur (by simp) rfl, rs_pur (by simp) rfl, trivial⟩, ors_var ⟨rs_pur (by simp) rfl, rs_pur (by simp) rfl, rs_pur (by simp) rfl, rs_pur (by simp) rfl, trivial⟩, trivial⟩ ?_
    refine w_ph 4 (by decide) rfl ?_
    refine awp_draw ⟨[[], [], [], [1, 2], [], [4], [1, 2, 3, 4, 5], [0, 1, 2, 3, 4, 5, 6], [0, 1, 2, 3, 4, 5, 6, 7], [0, 1, 2, 3, 4, 5, 6, 7, 8], [0, 1, 2, 3, 4, 5, 6, 7, 8], [0, 1, 2, 3, 4, 5, 6, 7, 8, 9, 10]], [[33], [], [34], [222, 223], [], [225], [224, 226], [221, 227], [228], [220], [220], [230]], [[1], [2], [], [2], [], [], [2], [2], [], [], [], []], [none, some 2, none, some 2, none, none, some 2, none, none, none, none, none]⟩ mo r9_35_ok (by decide +kernel) (l := r9_35.toList) rfl ?_
    refine d_op rfl rfl rfl (fun _ => (by first | exact o_ldg tg51 tn51 rfl rfl | exact o_ldpg tg51 tn51 rfl rfl rfl rfl)) ?_
    refine d_w rfl rfl rfl (fun _ => o_bsD tE43 (by decide) rfl rfl rfl rfl) rfl rfl rfl ?_
    refine d_op rfl rfl rfl (fun _ => o_mv rfl) ?_
    refine d_w rfl rfl rfl (fun _ => o_apD (out := l.map itemAV) (len' := l.length) tE43 rfl rfl (by simp) rfl rfl (by simp) (by simp <;> omega) (by simp <;> omega) rfl (by simp) (by simp)) rfl rfl rfl ?_
    refine d_op rfl rfl rfl (fun _ => o_bd tz45 rfl tp45 rfl rfl) ?_
    refine d_op rfl rfl rfl (fun _ => o_bs tE43 (by decide) rfl rfl rfl) ?_
    refine d_w rfl rfl rfl (fun _ => o_apD (out := (l ++ [i0R]).map itemAV) (len' := l.length + 1) tE43 rfl rfl (by simp) rfl rfl rfl (by simp <;> omega) (by simp <;> omega) rfl (by simp) (by simp [i0R, itemAV])) rfl rfl rfl ?_
    refine d_lendF (vs' := [planAV b4F p, .raw (.int .i64 0), .sl 4 fL ((l ++ [i0R]).map itemAV)]) rfl rfl rfl rfl rfl cb26 (two_r b4F p (by omega) (by omega) (by omega) (by omega) _ _ (l ++ [i0R]) (by first | exact manyI_le | (simp; omega)) (two_zero hck (by omega))) (fun _ => ⟨ln_eq (by simp) rfl, ln_eq (by simp) rfl, ln_slo (i := 2) rfl (by simp) (pu_item _) rfl, trivial⟩) (by simp) ?_
    refine d_op rfl rfl rfl (fun _ => o_mv rfl) ?_
    refine d_op rfl rfl rfl (fun _ => o_ex rfl rfl) ?_
    refine d_op rfl rfl rfl (fun _ => o_ex rfl rfl) ?_
    refine d_op rfl rfl rfl (fun _ => o_as rfl) ?_
    refine d_nil ?_
    refine tq_n ?_
    refine awp_seq ?_
    refine w_view [(33, .ptr 1 0), (34, .sl 4 false (l.map itemAV)), (12, .raw (.int .i64 280)), (14, .raw (.int .i64 2)), (16, .raw (.int .i64 5)), (18, .raw (.int .i64 292))] [.var [.sl 1 b.b0 (x.vols.map u8AV), .sl 1 b.b1 (x.caps.map u8AV), .sl 1 b.b2 (x.picks.map u8AV), .sl 1 b.b3 (x.unread.map u8AV), .raw (.int .u8 x.sweeps)], .var (planC b4F p)] 2 rfl (Nat.le_of_ble_eq_true rfl) (Nat.le_of_ble_eq_true rfl) ⟨⟨_, rfl, (by first | exact .mpK (Nat.le_of_ble_eq_true rfl) | exact .sloK (Nat.le_of_ble_eq_true rfl) | exact .ptrK (Nat.le_of_ble_eq_true rfl) | exact rs_pur (by simp) rfl)⟩, ⟨_, rfl, (by first | exact .mpK (Nat.le_of_ble_eq_true rfl) | exact .sloK (Nat.le_of_ble_eq_true rfl) | exact .ptrK (Nat.le_of_ble_eq_true rfl) | exact rs_pur (by simp) rfl)⟩, ⟨_, rfl, (by first | exact .mpK (Nat.le_of_ble_eq_true rfl) | exact .sloK (Nat.le_of_ble_eq_true rfl) | exact .ptrK (Nat.le_of_ble_eq_true rfl) | exact rs_pur (by simp) rfl)⟩, ⟨_, rfl, (by first | exact .mpK (Nat.le_of_ble_eq_true rfl) | exact .sloK (Nat.le_of_ble_eq_true rfl) | exact .ptrK (Nat.le_of_ble_eq_true rfl) | exact rs_pur (by simp) rfl)⟩, ⟨_, rfl, (by first | exact .mpK (Nat.le_of_ble_eq_true rfl) | exact .sloK (Nat.le_of_ble_eq_true rfl) | exact .ptrK (Nat.le_of_ble_eq_true rfl) | exact rs_pur (by simp) rfl)⟩, ⟨_, rfl, (by first | exact .mpK (Nat.le_of_ble_eq_true rfl) | exact .sloK (Nat.le_of_ble_eq_true rfl) | exact .ptrK (Nat.le_of_ble_eq_true rfl) | exact rs_pur (by simp) rfl)⟩, trivial⟩ ⟨ors_var ⟨rs_pur (by simp) rfl, rs_pur (by simp) rfl, rs_pur (by simp) rfl, rs_pur (by simp) rfl, rs_pur (by simp) rfl, trivial⟩, ors_var ⟨rs_pur (by simp) rfl, rs_pur (by simp) rfl, rs_pur (by simp) rfl, rs_pur (by simp) rfl, trivial⟩, trivial⟩ ?_
    refine w_ph 4 (by decide) rfl ?_
    refine awp_draw ⟨[[], [], [], [1, 2], [], [], [4, 5], [1, 2, 3, 4, 5, 6], [0, 1, 2, 3, 4, 5, 6, 7], [0, 1, 2, 3, 4, 5, 6, 7, 8], [0, 1, 2, 3, 4, 5, 6, 7, 8, 9], [0, 1, 2, 3, 4, 5, 6, 7, 8, 9], [0, 1, 2, 3, 4, 5, 6, 7, 8, 9, 10, 11]], [[33], [], [34], [233, 234], [], [], [236, 237], [235, 238], [232, 239], [240], [231], [231], [242]], [[1], [2], [], [2], [], [], [], [2], [2], [], [], [], []], [none, some 2, none, some 2, none, none, none, some 2, none, none, none, none, none]⟩ mo r9_36_ok (by decide +kernel) (l := r9_36.toList) rfl ?_
    refine d_op rfl rfl rfl (fun _ => (by first | exact o_ldg tg51 tn51 rfl rfl | exact o_ldpg tg51 tn51 rfl rfl rfl rfl)) ?_
    refine d_w rfl rfl rfl (fun _ => o_bsD tE43 (by decide) rfl rfl rfl rfl) rfl rfl rfl ?_
    refine d_op rfl rfl rfl (fun _ => o_mv rfl) ?_
    refine d_w rfl rfl rfl (fun _ => o_apD (out := l.map itemAV) (len' := l.length) tE43 rfl rfl (by simp) rfl rfl (by simp) (by simp <;> omega) (by simp <;> omega) rfl (by simp) (by simp)) rfl rfl rfl ?_
    refine d_op rfl rfl rfl (fun _ => o_bd tz45 rfl tp45 rfl rfl) ?_
    refine d_op rfl rfl rfl (fun _ => o_bd tz45 rfl tp45 rfl rfl) ?_
    refine d_op rfl rfl rfl (fun _ => o_bs tE43 (by decide) rfl rfl rfl) ?_
    refine d_w rfl rfl rfl (fun _ => o_apD (out := (l ++ [i9R, i9R]).map itemAV) (len' := l.length + 2) tE43 rfl rfl (by simp) rfl rfl rfl (by simp <;> omega) (by simp <;> omega) rfl (by simp) (by simp [i9R, itemAV])) rfl rfl rfl ?_
    refine d_lendF (vs' := [planAV b4F p, .raw (.int .i64 0), .sl 4 fL ((l ++ [i9R, i9R]).map itemAV)]) rfl rfl rfl rfl rfl cb26 (two_r b4F p (by omega) (by omega) (by omega) (by omega) _ _ (l ++ [i9R, i9R]) (by first | exact manyI_le | (simp; omega)) (two_dup hck (by omega))) (fun _ => ⟨ln_eq (by simp) rfl, ln_eq (by simp) rfl, ln_slo (i := 2) rfl (by simp) (pu_item _) rfl, trivial⟩) (by simp) ?_
    refine d_op rfl rfl rfl (fun _ => o_mv rfl) ?_
    refine d_op rfl rfl rfl (fun _ => o_ex rfl rfl) ?_
    refine d_op rfl rfl rfl (fun _ => o_ex rfl rfl) ?_
    refine d_op rfl rfl rfl (fun _ => o_as rfl) ?_
    refine d_nil ?_
    refine tq_n ?_
    refine awp_seq ?_
    refine w_reg (l := r9_37.toList) rfl r9_37_ok ?_
    refine a_op rfl (o_mv rfl) ?_
    refine a_op rfl (elD (o_eq rfl rfl) (w := .raw (.bool true)) rfl) ?_
    refine a_op rfl (o_mv rfl) ?_
    refine a_op rfl (o_mv rfl) ?_
    refine a_op rfl (elD (o_eq rfl rfl) (w := .raw (.bool true)) rfl) ?_
    refine a_op rfl (o_pkt rfl rfl) ?_
    refine a_op rfl (o_mv rfl) ?_
    refine a_op rfl (o_mv rfl) ?_
    refine a_op rfl (elD (o_eq rfl rfl) (w := .raw (.bool true)) rfl) ?_
    refine a_op rfl (o_pkt rfl rfl) ?_
    refine a_op rfl (o_mv rfl) ?_
    refine a_op rfl (o_mv rfl) ?_
    refine a_op rfl (elD (o_eq rfl rfl) (w := .raw (.bool true)) rfl) ?_
    refine a_op rfl (o_pkt rfl rfl) ?_
    refine a_op rfl (o_mv rfl) ?_
    refine a_op rfl (o_mv rfl) ?_
    refine a_op rfl (elD (o_eq rfl rfl) (w := .raw (.bool true)) rfl) ?_
    refine a_op rfl (o_pkt rfl rfl) ?_
    refine a_op rfl (o_mv rfl) ?_
    refine a_pure rfl rfl rfl cb32 awake_ok ?_
    refine a_op rfl (o_pkt rfl rfl) ?_
    refine a_op rfl (o_as rfl) ?_
    refine a_nil ?_
    refine tq_n ?_
    refine awp_ret ?_
    refine r_one rfl ⟨rfl, trivial⟩ ?_
    exact rs_pur (by simp) rfl
  refine a_pure rfl rfl rfl cb34 (built_bad b x hx hP) ?_
  refine a_op rfl (o_mv rfl) ?_
  refine a_op rfl (o_ex rfl rfl) ?_
  refine a_op rfl (o_ex rfl rfl) ?_
  refine a_op rfl (o_ex rfl rfl) ?_
  refine a_op rfl (o_al (N := 1) tz51 rfl rfl rfl) ?_
  refine a_op0 rfl (o_st (N := 3) tn51 rfl rfl rfl rfl rfl) ?_
  refine a_op rfl (o_as rfl) ?_
  refine a_op rfl (o_as rfl) ?_
  refine a_nil ?_
  refine tq_n ?_
  refine awp_seq ?_
  refine awp_seq ?_
  refine w_reg (l := r9_30.toList) rfl r9_30_ok ?_
  refine a_op rfl (o_mv rfl) ?_
  refine a_op rfl (o_ntf rfl) ?_
  refine a_nil ?_
  refine tq_n ?_
  refine w_true rfl ?_
  refine awp_seq ?_
  refine w_reg (l := r9_31.toList) rfl r9_31_ok ?_
  refine a_pure rfl rfl rfl cb32 awake_ok ?_
  refine a_op rfl (o_as rfl) ?_
  refine a_nil ?_
  refine tq_n ?_
  refine awp_ret ?_
  refine tq_r ?_
  refine r_one rfl ⟨rfl, trivial⟩ ?_
  exact rs_pur (by simp) rfl
end Go.Ab.S
