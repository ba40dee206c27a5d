/- What functions of this program compute, and the laws of what they compute, under the bounds on lengths that each contract states. -/
import Derived.Test.YtegbbhaghlcckaaS21
import Derived.Test.YtegbbhaghlcckaaK16

set_option linter.unusedSimpArgs false
set_option linter.unusedVariables false
namespace Go.Ab.S
open Go Go.Ab Go.Proofs
def fillT (S : List ItemR) (j : Nat) : List ItemR := (S.take j).map rdT ++ S.drop j
theorem fillT_len (S : List ItemR) (j : Nat) : (fillT S j).length = S.length := by simp [fillT]; omega
theorem fillT_get {S : List ItemR} {j : Nat} (h : j < S.length) : (fillT S j)[j]'(by rw [fillT_len]; exact h) = S[j] := by
  simp only [fillT]
  rw [List.getElem_append_right (by simp; omega)]
  simp [show min j S.length = j by omega]
theorem fillT_set {S : List ItemR} {j : Nat} (h : j < S.length) (x : ItemR) (hx : x = rdT S[j]) : (fillT S j).set j x = fillT S (j + 1) := by
  subst hx
  have h1 : S.drop j = S[j] :: S.drop (j + 1) := List.drop_eq_getElem_cons h
  simp only [fillT]
  rw [List.set_append_right _ _ (by simp; omega), show j - ((S.take j).map rdT).length = 0 by (simp; omega), h1, List.set_cons_zero, List.take_succ_eq_append_getElem h, List.map_append, List.append_assoc]
  rfl
theorem stsS_snoc (p : PlanR) (S : List ItemR) (y : ItemR) : stsS p (S ++ [y]) = stsS p S ++ [seatI p y.stop] := by simp [stsS]
theorem fillT_all (S : List ItemR) : fillT S S.length = S.map rdT := by simp [fillT]
theorem fillT_at {S : List ItemR} {j : Nat} (h : j < S.length) : ((fillT S j).map itemAV)[0 + j]? = some (itemAV S[j]) := by
  rw [Nat.zero_add, List.getElem?_map, List.getElem?_eq_getElem (by rw [fillT_len]; exact h), fillT_get h]; rfl
theorem set_at {S : List ItemR} {j : Nat} {x : ItemR} (h : j < S.length) : ((S.set j x).map itemAV)[0 + j]? = some (itemAV x) := by
  rw [Nat.zero_add, List.getElem?_map, List.getElem?_set_self h]; rfl
theorem len_slo {H : Heap} {i z ver off len : Nat} {es : List AV} (h : H[i]? = some (.vec z ver es)) : lenAV H (.slo i ver off len) = some len := by simp [lenAV, h]
theorem idAt_get {T : List ItemR} {a : Nat} (h : a < T.length) : idAt T a = T[a].id := by rw [idAt, Int.toNat_natCast, getDg h]

noncomputable def r10_0 : Array Oper := opsAt Try.f10 [0]
theorem r10_0_ok : dstOk 190 r10_0.toList = true ∧ r10_0.toList.all (fun o => noDefer o.op) = true := by decide +kernel
noncomputable def r10_1 : Array Oper := opsAt Try.f10 [1, 0]
theorem r10_1_ok : dstOk 190 r10_1.toList = true ∧ r10_1.toList.all (fun o => noDefer o.op) = true := by decide +kernel
noncomputable def r10_2 : Array Oper := opsAt Try.f10 [1, 1, 0, 0]
theorem r10_2_ok : dstOk 190 r10_2.toList = true ∧ r10_2.toList.all (fun o => noDefer o.op) = true := by decide +kernel
noncomputable def r10_3 : Array Oper := opsAt Try.f10 [1, 1, 0, 1, 0, 0]
theorem r10_3_ok : dstOk 190 r10_3.toList = true ∧ r10_3.toList.all (fun o => noDefer o.op) = true := by decide +kernel
noncomputable def r10_4 : Array Oper := opsAt Try.f10 [1, 1, 1, 0]
theorem r10_4_ok : dstOk 190 r10_4.toList = true ∧ r10_4.toList.all (fun o => noDefer o.op) = true := by decide +kernel
noncomputable def r10_5 : Array Oper := opsAt Try.f10 [1, 1, 1, 1, 0]
theorem r10_5_ok : dstOk 190 r10_5.toList = true ∧ r10_5.toList.all (fun o => noDefer o.op) = true := by decide +kernel
noncomputable def r10_6 : Array Oper := opsAt Try.f10 [1, 1, 1, 1, 1, 0]
theorem r10_6_ok : dstOk 190 r10_6.toList = true ∧ r10_6.toList.all (fun o => noDefer o.op) = true := by decide +kernel
noncomputable def r10_7 : Array Oper := opsAt Try.f10 [1, 1, 1, 1, 1, 1, 0, 0]
theorem r10_7_ok : dstOk 190 r10_7.toList = true ∧ r10_7.toList.all (fun o => noDefer o.op) = true := by decide +kernel
noncomputable def r10_8 : Array Oper := opsAt Try.f10 [1, 1, 1, 1, 1, 1, 0, 1, 0, 0, 0]
theorem r10_8_ok : dstOk 190 r10_8.toList = true ∧ r10_8.toList.all (fun o => noDefer o.op) = true := by decide +kernel
noncomputable def r10_9 : Array Oper := opsAt Try.f10 [1, 1, 1, 1, 1, 1, 0, 1, 0, 0, 1, 1, 0, 0, 0]
theorem r10_9_ok : dstOk 190 r10_9.toList = true ∧ r10_9.toList.all (fun o => noDefer o.op) = true := by decide +kernel
noncomputable def r10_10 : Array Oper := opsAt Try.f10 [1, 1, 1, 1, 1, 1, 0, 1, 0, 0, 1, 1, 0, 0, 1, 0]
theorem r10_10_ok : dstOk 190 r10_10.toList = true ∧ r10_10.toList.all (fun o => noDefer o.op) = true := by decide +kernel
noncomputable def r10_11 : Array Oper := opsAt Try.f10 [1, 1, 1, 1, 1, 1, 0, 1, 0, 0, 1, 1, 0, 0, 1, 1, 0]
theorem r10_11_ok : dstOk 190 r10_11.toList = true ∧ r10_11.toList.all (fun o => noDefer o.op) = true := by decide +kernel
noncomputable def r10_12 : Array Oper := opsAt Try.f10 [1, 1, 1, 1, 1, 1, 0, 1, 0, 0, 1, 1, 0, 0, 1, 1, 1, 0, 0]
theorem r10_12_ok : dstOk 190 r10_12.toList = true ∧ r10_12.toList.all (fun o => noDefer o.op) = true := by decide +kernel
noncomputable def r10_13 : Array Oper := opsAt Try.f10 [1, 1, 1, 1, 1, 1, 0, 1, 0, 0, 1, 1, 0, 0, 1, 1, 1, 0, 1, 0]
theorem r10_13_ok : dstOk 190 r10_13.toList = true ∧ r10_13.toList.all (fun o => noDefer o.op) = true := by decide +kernel
noncomputable def r10_14 : Array Oper := opsAt Try.f10 [1, 1, 1, 1, 1, 1, 0, 1, 0, 0, 1, 1, 0, 0, 1, 1, 1, 0, 1, 1]
theorem r10_14_ok : dstOk 190 r10_14.toList = true ∧ r10_14.toList.all (fun o => noDefer o.op) = true := by decide +kernel
noncomputable def r10_15 : Array Oper := opsAt Try.f10 [1, 1, 1, 1, 1, 1, 0, 1, 0, 0, 1, 1, 1]
theorem r10_15_ok : dstOk 190 r10_15.toList = true ∧ r10_15.toList.all (fun o => noDefer o.op) = true := by decide +kernel
noncomputable def b10_0 : Code := (.seq (.region 8 r10_8 false) (.seq (.cond (.tmp 34) .skip (.exit 0)) (.seq (.block 1 (.seq (.region 9 r10_9 false) (.seq (.region 10 r10_10 false) (.seq (.region 11 r10_11 true) (.cond (.tmp 54) (.seq (.region 12 r10_12 false) (.seq (.region 13 r10_13 false) (.region 14 r10_14 false))) .skip))))) (.region 15 r10_15 false))))
noncomputable def r10_16 : Array Oper := opsAt Try.f10 [1, 1, 1, 1, 1, 1, 1, 0]
theorem r10_16_ok : dstOk 190 r10_16.toList = true ∧ r10_16.toList.all (fun o => noDefer o.op) = true := by decide +kernel
noncomputable def r10_17 : Array Oper := opsAt Try.f10 [1, 1, 1, 1, 1, 1, 1, 1, 0, 0]
theorem r10_17_ok : dstOk 190 r10_17.toList = true ∧ r10_17.toList.all (fun o => noDefer o.op) = true := by decide +kernel
noncomputable def r10_18 : Array Oper := opsAt Try.f10 [1, 1, 1, 1, 1, 1, 1, 1, 0, 1, 0, 0]
theorem r10_18_ok : dstOk 190 r10_18.toList = true ∧ r10_18.toList.all (fun o => noDefer o.op) = true := by decide +kernel
noncomputable def r10_19 : Array Oper := opsAt Try.f10 [1, 1, 1, 1, 1, 1, 1, 1, 1, 0, 0]
theorem r10_19_ok : dstOk 190 r10_19.toList = true ∧ r10_19.toList.all (fun o => noDefer o.op) = true := by decide +kernel
noncomputable def r10_20 : Array Oper := opsAt Try.f10 [1, 1, 1, 1, 1, 1, 1, 1, 1, 0, 1, 0, 0, 0]
theorem r10_20_ok : dstOk 190 r10_20.toList = true ∧ r10_20.toList.all (fun o => noDefer o.op) = true := by decide +kernel
noncomputable def r10_21 : Array Oper := opsAt Try.f10 [1, 1, 1, 1, 1, 1, 1, 1, 1, 0, 1, 0, 0, 1, 1, 0, 0, 0]
theorem r10_21_ok : dstOk 190 r10_21.toList = true ∧ r10_21.toList.all (fun o => noDefer o.op) = true := by decide +kernel
noncomputable def r10_22 : Array Oper := opsAt Try.f10 [1, 1, 1, 1, 1, 1, 1, 1, 1, 0, 1, 0, 0, 1, 1, 0, 0, 1, 0]
theorem r10_22_ok : dstOk 190 r10_22.toList = true ∧ r10_22.toList.all (fun o => noDefer o.op) = true := by decide +kernel
noncomputable def r10_23 : Array Oper := opsAt Try.f10 [1, 1, 1, 1, 1, 1, 1, 1, 1, 0, 1, 0, 0, 1, 1, 0, 0, 1, 1, 0, 0]
theorem r10_23_ok : dstOk 190 r10_23.toList = true ∧ r10_23.toList.all (fun o => noDefer o.op) = true := by decide +kernel
noncomputable def r10_24 : Array Oper := opsAt Try.f10 [1, 1, 1, 1, 1, 1, 1, 1, 1, 0, 1, 0, 0, 1, 1, 1]
theorem r10_24_ok : dstOk 190 r10_24.toList = true ∧ r10_24.toList.all (fun o => noDefer o.op) = true := by decide +kernel
noncomputable def b10_1 : Code := (.seq (.region 20 r10_20 false) (.seq (.cond (.tmp 106) .skip (.exit 2)) (.seq (.block 3 (.seq (.region 21 r10_21 false) (.seq (.region 22 r10_22 false) (.cond (.tmp 110) (.seq (.region 23 r10_23 false) .ret) .skip)))) (.region 24 r10_24 false))))
noncomputable def r10_25 : Array Oper := opsAt Try.f10 [1, 1, 1, 1, 1, 1, 1, 1, 1, 1, 0, 0]
theorem r10_25_ok : dstOk 190 r10_25.toList = true ∧ r10_25.toList.all (fun o => noDefer o.op) = true := by decide +kernel
noncomputable def r10_26 : Array Oper := opsAt Try.f10 [1, 1, 1, 1, 1, 1, 1, 1, 1, 1, 0, 1, 0, 0, 0]
theorem r10_26_ok : dstOk 190 r10_26.toList = true ∧ r10_26.toList.all (fun o => noDefer o.op) = true := by decide +kernel
noncomputable def r10_27 : Array Oper := opsAt Try.f10 [1, 1, 1, 1, 1, 1, 1, 1, 1, 1, 0, 1, 0, 0, 1, 1, 0, 0, 0]
theorem r10_27_ok : dstOk 190 r10_27.toList = true ∧ r10_27.toList.all (fun o => noDefer o.op) = true := by decide +kernel
noncomputable def r10_28 : Array Oper := opsAt Try.f10 [1, 1, 1, 1, 1, 1, 1, 1, 1, 1, 0, 1, 0, 0, 1, 1, 0, 0, 1]
theorem r10_28_ok : dstOk 190 r10_28.toList = true ∧ r10_28.toList.all (fun o => noDefer o.op) = true := by decide +kernel
noncomputable def r10_29 : Array Oper := opsAt Try.f10 [1, 1, 1, 1, 1, 1, 1, 1, 1, 1, 0, 1, 0, 0, 1, 1, 1]
theorem r10_29_ok : dstOk 190 r10_29.toList = true ∧ r10_29.toList.all (fun o => noDefer o.op) = true := by decide +kernel
noncomputable def b10_2 : Code := (.seq (.region 26 r10_26 false) (.seq (.cond (.tmp 115) .skip (.exit 4)) (.seq (.block 5 (.seq (.region 27 r10_27 false) (.region 28 r10_28 false))) (.region 29 r10_29 false))))
noncomputable def r10_30 : Array Oper := opsAt Try.f10 [1, 1, 1, 1, 1, 1, 1, 1, 1, 1, 1, 0]
theorem r10_30_ok : dstOk 190 r10_30.toList = true ∧ r10_30.toList.all (fun o => noDefer o.op) = true := by decide +kernel
noncomputable def r10_31 : Array Oper := opsAt Try.f10 [1, 1, 1, 1, 1, 1, 1, 1, 1, 1, 1, 1, 0]
theorem r10_31_ok : dstOk 190 r10_31.toList = true ∧ r10_31.toList.all (fun o => noDefer o.op) = true := by decide +kernel
noncomputable def r10_32 : Array Oper := opsAt Try.f10 [1, 1, 1, 1, 1, 1, 1, 1, 1, 1, 1, 1, 1, 0, 0]
theorem r10_32_ok : dstOk 190 r10_32.toList = true ∧ r10_32.toList.all (fun o => noDefer o.op) = true := by decide +kernel
noncomputable def r10_33 : Array Oper := opsAt Try.f10 [1, 1, 1, 1, 1, 1, 1, 1, 1, 1, 1, 1, 1, 0, 1, 0, 0]
theorem r10_33_ok : dstOk 190 r10_33.toList = true ∧ r10_33.toList.all (fun o => noDefer o.op) = true := by decide +kernel
noncomputable def r10_34 : Array Oper := opsAt Try.f10 [1, 1, 1, 1, 1, 1, 1, 1, 1, 1, 1, 1, 1, 1, 0, 0]
theorem r10_34_ok : dstOk 190 r10_34.toList = true ∧ r10_34.toList.all (fun o => noDefer o.op) = true := by decide +kernel
noncomputable def r10_35 : Array Oper := opsAt Try.f10 [1, 1, 1, 1, 1, 1, 1, 1, 1, 1, 1, 1, 1, 1, 0, 1, 0, 0, 0]
theorem r10_35_ok : dstOk 190 r10_35.toList = true ∧ r10_35.toList.all (fun o => noDefer o.op) = true := by decide +kernel
noncomputable def r10_36 : Array Oper := opsAt Try.f10 [1, 1, 1, 1, 1, 1, 1, 1, 1, 1, 1, 1, 1, 1, 0, 1, 0, 0, 1, 1, 0, 0, 0]
theorem r10_36_ok : dstOk 190 r10_36.toList = true ∧ r10_36.toList.all (fun o => noDefer o.op) = true := by decide +kernel
noncomputable def r10_37 : Array Oper := opsAt Try.f10 [1, 1, 1, 1, 1, 1, 1, 1, 1, 1, 1, 1, 1, 1, 0, 1, 0, 0, 1, 1, 0, 0, 1, 0]
theorem r10_37_ok : dstOk 190 r10_37.toList = true ∧ r10_37.toList.all (fun o => noDefer o.op) = true := by decide +kernel
noncomputable def r10_38 : Array Oper := opsAt Try.f10 [1, 1, 1, 1, 1, 1, 1, 1, 1, 1, 1, 1, 1, 1, 0, 1, 0, 0, 1, 1, 0, 0, 1, 1, 0, 0]
theorem r10_38_ok : dstOk 190 r10_38.toList = true ∧ r10_38.toList.all (fun o => noDefer o.op) = true := by decide +kernel
noncomputable def r10_39 : Array Oper := opsAt Try.f10 [1, 1, 1, 1, 1, 1, 1, 1, 1, 1, 1, 1, 1, 1, 0, 1, 0, 0, 1, 1, 1]
theorem r10_39_ok : dstOk 190 r10_39.toList = true ∧ r10_39.toList.all (fun o => noDefer o.op) = true := by decide +kernel
noncomputable def b10_3 : Code := (.seq (.region 35 r10_35 false) (.seq (.cond (.tmp 163) .skip (.exit 6)) (.seq (.block 7 (.seq (.region 36 r10_36 false) (.seq (.region 37 r10_37 true) (.cond (.tmp 187) (.seq (.region 38 r10_38 false) .ret) .skip)))) (.region 39 r10_39 false))))
noncomputable def r10_40 : Array Oper := opsAt Try.f10 [1, 1, 1, 1, 1, 1, 1, 1, 1, 1, 1, 1, 1, 1, 1, 0]
theorem r10_40_ok : dstOk 190 r10_40.toList = true ∧ r10_40.toList.all (fun o => noDefer o.op) = true := by decide +kernel
noncomputable def c10 : Code := (.seq (.region 0 r10_0 false) (.seq (.region 1 r10_1 false) (.seq (.seq (.region 2 r10_2 false) (.cond (.tmp 28) (.seq (.region 3 r10_3 false) .ret) .skip)) (.seq (.region 4 r10_4 false) (.seq (.region 5 r10_5 false) (.seq (.region 6 r10_6 false) (.seq (.seq (.region 7 r10_7 false) (.block 0 (.loop b10_0))) (.seq (.region 16 r10_16 false) (.seq (.seq (.region 17 r10_17 false) (.cond (.tmp 94) (.seq (.region 18 r10_18 false) .ret) .skip)) (.seq (.seq (.region 19 r10_19 true) (.block 2 (.loop b10_1))) (.seq (.seq (.region 25 r10_25 false) (.block 4 (.loop b10_2))) (.seq (.region 30 r10_30 false) (.seq (.region 31 r10_31 false) (.seq (.seq (.region 32 r10_32 false) (.cond (.tmp 158) (.seq (.region 33 r10_33 false) .ret) .skip)) (.seq (.seq (.region 34 r10_34 false) (.block 6 (.loop b10_3))) (.seq (.region 40 r10_40 false) .ret))))))))))))))))
theorem body10 : Try.f10.body = some c10 := by kernel_rfl
theorem room_ok (b : B4) (x : CaseR) (hx : x.ok) : PureCall Try.prog GL 10 [caseAV b x] (.raw (.bool true)) := by
  refine pure_of_body Try.func10 body10 (Nat.le_of_ble_eq_true rfl) (by simp) (by simp) ?_
  refine w_keep [(0, caseAV b x)] ⟨rfl, trivial⟩ ?_
  unfold c10
  refine awp_seq ?_
  refine w_reg (l := r10_0.toList) rfl r10_0_ok ?_
  refine a_op rfl (o_box (N := 0) rfl (by rfl) rfl rfl) ?_
  refine a_op rfl (o_as rfl) ?_
  refine a_nil ?_
  refine tq_n ?_
  refine awp_seq ?_
  refine w_reg (l := r10_1.toList) rfl r10_1_ok ?_
  refine a_op rfl ((by first | exact o_ldg tg82 tn82 rfl rfl | exact o_ldpg tg82 tn82 rfl rfl rfl rfl)) ?_
  by_cases hP : (planF x).2 = 0
  · obtain ⟨hmade, hst1, hst2, hrt⟩ := make_made (stops := stopsF x) (caps := capsF x) hP
    have hck : CheckOk (planF x).1 := hmade.ck
    have hd := itemsF_nodup x
    have hid := itemsF_in x
    have hll := itemsF_len x
    have hsx := hx.s
    unfold u8r at hsx
    obtain ⟨p, hp⟩ : ∃ p, p = (planF x).1 := ⟨_, rfl⟩
    obtain ⟨l, hl⟩ : ∃ l, l = itemsF x := ⟨_, rfl⟩
    rw [← hp] at hck
    rw [← hl] at hd hid hll
    obtain ⟨sw, hsw⟩ : ∃ sw : Int, sw = x.sweeps % 9 := ⟨_, rfl⟩
    have hsw0 : 0 ≤ sw ∧ sw ≤ 8 := by omega
    have hcl := rightF_caps hck
    have hsm := hck.m
    have hvol : ∀ x ∈ p.seats, 0 ≤ x.vol := fun x hx => by have := wrongS_vol (l := p.seats) (by have := hck.s; omega) x hx; omega
    have hf1 := hck.l1
    have hf2 := hck.l2
    refine a_pure rfl rfl rfl cb34 (built_good b x hx hP) ?_
    rw [← hp, ← hl]
    refine a_op rfl (o_mv rfl) ?_
    refine a_op rfl (o_ex rfl rfl) ?_
    refine a_op rfl (o_ex rfl rfl) ?_
    refine a_op rfl (o_ex rfl rfl) ?_
    refine a_op rfl (o_al (N := 1) tz51 rfl rfl rfl) ?_
    refine a_op0 rfl (o_st (N := 3) tn51 rfl rfl rfl rfl rfl) ?_
    refine a_op rfl (o_as rfl) ?_
    refine a_op rfl (o_as rfl) ?_
    refine a_nil ?_
    refine tq_n ?_
    refine awp_seq ?_
    refine awp_seq ?_
    refine w_reg (l := r10_2.toList) rfl r10_2_ok ?_
    refine a_op rfl (o_mv rfl) ?_
    refine a_op rfl (o_ntt rfl) ?_
    refine a_nil ?_
    refine tq_n ?_
    refine w_false rfl ?_
    refine awp_skip ?_
    refine tq_n ?_
    refine awp_seq ?_
    refine w_reg (l := r10_4.toList) rfl r10_4_ok ?_
    refine a_opH rfl (o_mm (N := 2) rfl rfl) (H' := [.var [.sl 1 b.b0 (x.vols.map u8AV), .sl 1 b.b1 (x.caps.map u8AV), .sl 1 b.b2 (x.picks.map u8AV), .sl 1 b.b3 (x.unread.map u8AV), .raw (.int .u8 x.sweeps)], .var (planC b4F p), .mapo (mpI (cntL (stsS p [])))]) rfl ?_
    refine a_op rfl (o_as rfl) ?_
    refine a_nil ?_
    refine tq_n ?_
    refine awp_seq ?_
    refine w_reg (l := r10_5.toList) rfl r10_5_ok ?_
    refine a_op rfl (o_as rfl) ?_
    refine a_nil ?_
    refine tq_n ?_
    refine awp_seq ?_
    refine w_reg (l := r10_6.toList) rfl r10_6_ok ?_
    refine a_op rfl (o_as rfl) ?_
    refine a_nil ?_
    refine tq_n ?_
    refine awp_seq ?_
    refine awp_seq ?_
    refine w_own (q := 7) (z := 4) (N := 3) (by decide) rfl rfl rfl ?_
    refine w_own (q := 8) (z := 1) (N := 4) (by decide) rfl rfl rfl ?_
    refine w_reg (l := r10_7.toList) rfl r10_7_ok ?_
    refine a_op rfl (o_mv rfl) ?_
    refine a_op rfl (o_len rfl rfl (by first | exact List.length_map .. | rfl) tl43) ?_
    refine a_op rfl (o_mv rfl) ?_
    refine a_nil ?_
    refine tq_n ?_
    refine awp_block ?_
    refine w_loop (fun i : Nat => i ≤ l.length) (fun i => [(1, .ptr 0 0), (3, .ptr 1 0), (6, .mp 2), (7, .slo 3 (someS p l i).length 0 (someS p l i).length), (8, .slo 4 (someS p l i).length 0 (someS p l i).length), (31, .sl 4 false (l.map itemAV)), (32, .raw (.int .i64 ((l.length : Nat) : Int))), (33, .raw (.int .i64 ((i : Nat) : Int)))]) (fun i => [.var [.sl 1 b.b0 (x.vols.map u8AV), .sl 1 b.b1 (x.caps.map u8AV), .sl 1 b.b2 (x.picks.map u8AV), .sl 1 b.b3 (x.unread.map u8AV), .raw (.int .u8 x.sweeps)], .var (planC b4F p), .mapo (mpI (cntL (stsS p (someS p l i)))), .vec 4 (someS p l i).length ((someS p l i).map itemAV), .vec 1 (someS p l i).length (((someS p l i).map (·.stop)).map intAV)]) (fun i => l.length - i) (0) (by simp) ⟨(by first | exact sub_int rfl (by omega) | rfl), (by first | exact sub_int rfl (by omega) | rfl), (by first | exact sub_int rfl (by omega) | rfl), (by first | exact sub_int rfl (by omega) | rfl), (by first | exact sub_int rfl (by omega) | rfl), (by first | exact sub_int rfl (by omega) | rfl), (by first | exact sub_int rfl (by omega) | rfl), (by first | exact sub_int rfl (by omega) | rfl), trivial⟩ rfl ?_
    intro i hpi
    have hsl := (someS_sub (p := p) (l := l) i hpi).length_le
    rw [List.length_take] at hsl
    unfold b10_0
    refine awp_seq ?_
    refine w_reg (l := r10_8.toList) rfl r10_8_ok ?_
    refine a_if rfl (o_lt rfl rfl) (fun h1 => ?_) (fun h2 => ?_)
    · refine a_nil ?_
      refine tq_n ?_
      refine awp_seq ?_
      refine w_true rfl ?_
      refine awp_skip ?_
      refine tq_n ?_
      refine awp_seq ?_
      refine awp_block ?_
      refine awp_seq ?_
      have hi : i < l.length := by omega
      have hbd := seatI_bd p l[i].stop
      have hcb := cntS_bd p (someS p l i) (seatI p l[i].stop)
      have hcg := stsS_get p (someS p l i) (seatI p l[i].stop)
      refine w_reg (l := r10_9.toList) rfl r10_9_ok ?_
      refine a_op rfl (o_ix te43 tn45 rfl rfl rfl (ixm _ _ _ hi)) ?_
      refine a_op rfl ((by first | exact o_ldg tg45 tn45 rfl rfl | exact o_ldpg tg45 tn45 rfl rfl rfl rfl)) ?_
      refine a_op rfl (o_al (N := 5) tz45 rfl rfl rfl) ?_
      refine a_op0 rfl (o_st (N := 3) tn45 rfl rfl rfl rfl rfl) ?_
      refine a_nil ?_
      refine tq_n ?_
      refine awp_seq ?_
      refine w_reg (l := r10_10.toList) rfl r10_10_ok ?_
      refine a_op rfl ((by first | exact o_ldg tg51 tn51 rfl rfl | exact o_ldpg tg51 tn51 rfl rfl rfl rfl)) ?_
      refine a_op rfl ((by first | exact o_fa tf45_1 rfl rfl | exact o_fap tf45_1 rfl rfl)) ?_
      refine a_op rfl ((by first | exact o_ld tg3 rfl rfl | exact o_ldp tg3 rfl rfl rfl rfl)) ?_
      refine a_pure rfl rfl rfl cb35 (seat_ok b4F p (by omega) _) ?_
      refine a_op rfl (o_as rfl) ?_
      refine a_nil ?_
      refine tq_n ?_
      refine awp_seq ?_
      refine awp_draw ⟨[[], [0], [0, 1], [0, 1, 2], [0, 1, 2], [0, 1, 2, 3, 4], [0, 1, 2], [0, 1, 2, 6], [0, 1, 2], [0, 1, 2, 6, 7, 8], [0, 1, 2, 6, 7, 8, 9], [0, 1, 2, 6, 7, 8, 9, 10], [0, 1, 2, 3, 4, 5, 6, 7, 8, 9, 10, 11], [0, 1, 2, 3, 4, 5, 6, 7, 8, 9, 10, 11, 12]], [[11], [41], [42], [6, 43], [11, 43], [43, 44, 45], [3, 43], [43, 47], [11, 43], [43, 48, 49], [43, 50], [43, 51], [43, 46, 52], [43, 53]], [[], [], [], [], [], [2], [], [1], [], [], [], [], [], []], [none, none, none, none, none, none, none, none, none, none, none, none, none, none]⟩ mo r10_11_ok (by decide +kernel) (l := r10_11.toList) rfl ?_
      refine d_op rfl rfl rfl (fun _ => o_mv rfl) ?_
      refine d_if rfl rfl rfl (fun _ => o_ge rfl rfl) (fun h3 => ?_) (fun h4 => ?_)
      · obtain ⟨n, hn⟩ : ∃ n : Nat, seatI p l[i].stop = n := ⟨(seatI p l[i].stop).toNat, by omega⟩
        have hnl : n < p.seats.length := by omega
        refine d_op rfl rfl rfl (fun _ => o_mv rfl) ?_
        refine d_op rfl rfl rfl (fun _ => o_mv rfl) ?_
        refine d_op rfl rfl rfl (fun _ => o_mv rfl) ?_
        refine d_op rfl rfl rfl (fun _ => o_lkI0 rfl rfl rfl) ?_
        rw [hcg]
        refine d_op rfl rfl rfl (fun _ => (by first | exact o_fa tf51_1 rfl rfl | exact o_fap tf51_1 rfl rfl)) ?_
        refine d_op rfl rfl rfl (fun _ => (by first | exact o_ld tg49 rfl rfl | exact o_ldp tg49 rfl rfl rfl rfl)) ?_
        refine d_op rfl rfl rfl (fun _ => o_mv rfl) ?_
        refine d_op rfl rfl rfl (fun _ => o_ix te49 tn89 rfl rfl hn (ixm _ _ _ hnl)) ?_
        refine d_op rfl rfl rfl (fun _ => (by first | exact o_fa tf89_1 rfl rfl | exact o_fap tf89_1 rfl rfl)) ?_
        refine d_op rfl rfl rfl (fun _ => (by first | exact o_ld tg3 rfl rfl | exact o_ldp tg3 rfl rfl rfl rfl)) ?_
        refine d_if rfl rfl rfl (fun _ => o_lt rfl rfl) (fun h5 => ?_) (fun h6 => ?_)
        · refine d_op rfl rfl rfl (fun _ => o_pkt rfl rfl) ?_
          refine d_nil ?_
          refine tq_n ?_
          refine w_true rfl ?_
          refine awp_seq ?_
          refine w_reg (l := r10_12.toList) rfl r10_12_ok ?_
          refine a_op rfl (o_mv rfl) ?_
          refine a_op rfl (o_mv rfl) ?_
          refine a_op rfl (o_lkI0 rfl rfl rfl) ?_
          rw [hcg]
          refine a_op rfl (o_add rfl rfl (by simp only [klo, khi]; omega)) ?_
          refine a_op0 rfl (o_muI rfl rfl rfl rfl rfl) ?_
          refine a_nil ?_
          refine tq_n ?_
          refine awp_seq ?_
          refine w_reg (l := r10_13.toList) rfl r10_13_ok ?_
          refine a_op rfl (o_mv rfl) ?_
          refine a_op rfl ((by first | exact o_ldg tg45 tn45 rfl rfl | exact o_ldpg tg45 tn45 rfl rfl rfl rfl)) ?_
          refine a_op rfl (o_bs tE43 (by decide) rfl rfl rfl) ?_
          refine a_op rfl (o_ap (out := ((someS p l i) ++ [l[i]]).map itemAV) (len' := (someS p l i).length + 1) tE43 rfl rfl (by simp) rfl rfl rfl (by simp; omega) (by simp; omega) rfl rfl (by simp [itemAV]) rfl) ?_
          refine a_op rfl (o_as rfl) ?_
          refine a_nil ?_
          refine tq_n ?_
          refine w_reg (l := r10_14.toList) rfl r10_14_ok ?_
          refine a_op rfl (o_mv rfl) ?_
          refine a_op rfl ((by first | exact o_fa tf45_1 rfl rfl | exact o_fap tf45_1 rfl rfl)) ?_
          refine a_op rfl ((by first | exact o_ld tg3 rfl rfl | exact o_ldp tg3 rfl rfl rfl rfl)) ?_
          refine a_op rfl (o_bs tE34 (by decide) rfl rfl rfl) ?_
          refine a_op rfl (o_ap (out := (((someS p l i) ++ [l[i]]).map (·.stop)).map intAV) (len' := (someS p l i).length + 1) tE34 rfl rfl (by simp) rfl rfl rfl (by simp; omega) (by simp; omega) rfl rfl (by simp [intAV]) rfl) ?_
          refine a_op rfl (o_as rfl) ?_
          refine a_nil ?_
          refine bq_n ?_
          refine tq_n ?_
          refine w_view [(1, .ptr 0 0), (3, .ptr 1 0), (6, .mp 2), (7, .slo 3 ((someS p l i).length + 1) 0 ((someS p l i).length + 1)), (8, .slo 4 ((someS p l i).length + 1) 0 ((someS p l i).length + 1)), (31, .sl 4 false (l.map itemAV)), (32, .raw (.int .i64 ((l.length : Nat) : Int))), (33, .raw (.int .i64 ((i : Nat) : Int)))] [.var [.sl 1 b.b0 (x.vols.map u8AV), .sl 1 b.b1 (x.caps.map u8AV), .sl 1 b.b2 (x.picks.map u8AV), .sl 1 b.b3 (x.unread.map u8AV), .raw (.int .u8 x.sweeps)], .var (planC b4F p), .mapo (mpI (mput (cntL (stsS p (someS p l i))) (seatI p l[i].stop) (cntS p (someS p l i) (seatI p l[i].stop) + 1))), .vec 4 ((someS p l i).length + 1) (((someS p l i) ++ [l[i]]).map itemAV), .vec 1 ((someS p l i).length + 1) ((((someS p l i) ++ [l[i]]).map (·.stop)).map intAV)] 5 rfl (Nat.le_of_ble_eq_true rfl) (Nat.le_of_ble_eq_true rfl) ⟨⟨_, rfl, .ptrK (Nat.le_of_ble_eq_true rfl)⟩, ⟨_, rfl, .ptrK (Nat.le_of_ble_eq_true rfl)⟩, ⟨_, rfl, .mpK (Nat.le_of_ble_eq_true rfl)⟩, ⟨_, rfl, .sloK (Nat.le_of_ble_eq_true rfl)⟩, ⟨_, rfl, .sloK (Nat.le_of_ble_eq_true rfl)⟩, ⟨_, rfl, rs_pur (by simp) rfl⟩, ⟨_, rfl, rs_pur (by simp) rfl⟩, ⟨_, rfl, rs_pur (by simp) rfl⟩, trivial⟩ ⟨ors_var ⟨rs_pur (by simp) rfl, rs_pur (by simp) rfl, rs_pur (by simp) rfl, rs_pur (by simp) rfl, rs_pur (by simp) rfl, trivial⟩, ors_var ⟨rs_pur (by simp) rfl, rs_pur (by simp) rfl, rs_pur (by simp) rfl, rs_pur (by simp) rfl, trivial⟩, ors_mpI _, ors_vec (pu_item _), ors_vec (pu_int _), trivial⟩ ?_
          refine w_reg (l := r10_15.toList) rfl r10_15_ok ?_
          refine a_op rfl (o_add rfl rfl (by simp only [klo, khi]; omega)) ?_
          refine a_op rfl (o_mv rfl) ?_
          refine a_nil ?_
          refine tq_n ?_
          have he : someS p l (i + 1) = ((someS p l i) ++ [l[i]]) := someS_yes hi (by omega) (by rw [hn, Int.toNat_natCast, getDg hnl]; rw [hn] at *; omega)
          exact ⟨i + 1, ⟨by omega, by omega⟩, ⟨(by first | exact sub_int rfl (by omega) | rfl | exact sub_eq rfl (by rw [he]; simp) | exact sub_eq rfl (by rw [he])), (by first | exact sub_int rfl (by omega) | rfl | exact sub_eq rfl (by rw [he]; simp) | exact sub_eq rfl (by rw [he])), (by first | exact sub_int rfl (by omega) | rfl | exact sub_eq rfl (by rw [he]; simp) | exact sub_eq rfl (by rw [he])), (by first | exact sub_int rfl (by omega) | rfl | exact sub_eq rfl (by rw [he]; simp) | exact sub_eq rfl (by rw [he])), (by first | exact sub_int rfl (by omega) | rfl | exact sub_eq rfl (by rw [he]; simp) | exact sub_eq rfl (by rw [he])), (by first | exact sub_int rfl (by omega) | rfl | exact sub_eq rfl (by rw [he]; simp) | exact sub_eq rfl (by rw [he])), (by first | exact sub_int rfl (by omega) | rfl | exact sub_eq rfl (by rw [he]; simp) | exact sub_eq rfl (by rw [he])), (by first | exact sub_int rfl (by omega) | rfl | exact sub_eq rfl (by rw [he]; simp) | exact sub_eq rfl (by rw [he])), trivial⟩, by rw [he, stsS_snoc, cntL_snoc, stsS_get]; simp⟩
        refine d_op rfl rfl rfl (fun _ => o_pkt rfl rfl) ?_
        refine d_nil ?_
        refine tq_n ?_
        refine w_false rfl ?_
        refine awp_skip ?_
        refine bq_n ?_
        refine tq_n ?_
        refine w_view [(1, .ptr 0 0), (3, .ptr 1 0), (6, .mp 2), (7, .slo 3 (someS p l i).length 0 (someS p l i).length), (8, .slo 4 (someS p l i).length 0 (someS p l i).length), (31, .sl 4 false (l.map itemAV)), (32, .raw (.int .i64 ((l.length : Nat) : Int))), (33, .raw (.int .i64 ((i : Nat) : Int)))] [.var [.sl 1 b.b0 (x.vols.map u8AV), .sl 1 b.b1 (x.caps.map u8AV), .sl 1 b.b2 (x.picks.map u8AV), .sl 1 b.b3 (x.unread.map u8AV), .raw (.int .u8 x.sweeps)], .var (planC b4F p), .mapo (mpI (cntL (stsS p (someS p l i)))), .vec 4 (someS p l i).length ((someS p l i).map itemAV), .vec 1 (someS p l i).length (((someS p l i).map (·.stop)).map intAV)] 5 rfl (Nat.le_of_ble_eq_true rfl) (Nat.le_of_ble_eq_true rfl) ⟨⟨_, rfl, .ptrK (Nat.le_of_ble_eq_true rfl)⟩, ⟨_, rfl, .ptrK (Nat.le_of_ble_eq_true rfl)⟩, ⟨_, rfl, .mpK (Nat.le_of_ble_eq_true rfl)⟩, ⟨_, rfl, .sloK (Nat.le_of_ble_eq_true rfl)⟩, ⟨_, rfl, .sloK (Nat.le_of_ble_eq_true rfl)⟩, ⟨_, rfl, rs_pur (by simp) rfl⟩, ⟨_, rfl, rs_pur (by simp) rfl⟩, ⟨_, rfl, rs_pur (by simp) rfl⟩, trivial⟩ ⟨ors_var ⟨rs_pur (by simp) rfl, rs_pur (by simp) rfl, rs_pur (by simp) rfl, rs_pur (by simp) rfl, rs_pur (by simp) rfl, trivial⟩, ors_var ⟨rs_pur (by simp) rfl, rs_pur (by simp) rfl, rs_pur (by simp) rfl, rs_pur (by simp) rfl, trivial⟩, ors_mpI _, ors_vec (pu_item _), ors_vec (pu_int _), trivial⟩ ?_
        refine w_reg (l := r10_15.toList) rfl r10_15_ok ?_
        refine a_op rfl (o_add rfl rfl (by simp only [klo, khi]; omega)) ?_
        refine a_op rfl (o_mv rfl) ?_
        refine a_nil ?_
        refine tq_n ?_
        have he : someS p l (i + 1) = (someS p l i) := someS_no hi (by rw [hn, Int.toNat_natCast, getDg hnl]; rw [hn] at *; omega)
        exact ⟨i + 1, ⟨by omega, by omega⟩, ⟨(by first | exact sub_int rfl (by omega) | rfl | exact sub_eq rfl (by rw [he]; simp) | exact sub_eq rfl (by rw [he])), (by first | exact sub_int rfl (by omega) | rfl | exact sub_eq rfl (by rw [he]; simp) | exact sub_eq rfl (by rw [he])), (by first | exact sub_int rfl (by omega) | rfl | exact sub_eq rfl (by rw [he]; simp) | exact sub_eq rfl (by rw [he])), (by first | exact sub_int rfl (by omega) | rfl | exact sub_eq rfl (by rw [he]; simp) | exact sub_eq rfl (by rw [he])), (by first | exact sub_int rfl (by omega) | rfl | exact sub_eq rfl (by rw [he]; simp) | exact sub_eq rfl (by rw [he])), (by first | exact sub_int rfl (by omega) | rfl | exact sub_eq rfl (by rw [he]; simp) | exact sub_eq rfl (by rw [he])), (by first | exact sub_int rfl (by omega) | rfl | exact sub_eq rfl (by rw [he]; simp) | exact sub_eq rfl (by rw [he])), (by first | exact sub_int rfl (by omega) | rfl | exact sub_eq rfl (by rw [he]; simp) | exact sub_eq rfl (by rw [he])), trivial⟩, by rw [he]⟩
      refine d_op rfl rfl rfl (fun _ => o_mv rfl) ?_
      refine d_off rfl rfl ?_
      refine d_off rfl rfl ?_
      refine d_off rfl rfl ?_
      refine d_off rfl rfl ?_
      refine d_off rfl rfl ?_
      refine d_off rfl rfl ?_
      refine d_off rfl rfl ?_
      refine d_off rfl rfl ?_
      refine d_off rfl rfl ?_
      refine d_off rfl rfl ?_
      refine d_op rfl rfl rfl (fun _ => o_pkf rfl rfl) ?_
      refine d_nil ?_
      refine tq_n ?_
      refine w_false rfl ?_
      refine awp_skip ?_
      refine bq_n ?_
      refine tq_n ?_
      refine w_view [(1, .ptr 0 0), (3, .ptr 1 0), (6, .mp 2), (7, .slo 3 (someS p l i).length 0 (someS p l i).length), (8, .slo 4 (someS p l i).length 0 (someS p l i).length), (31, .sl 4 false (l.map itemAV)), (32, .raw (.int .i64 ((l.length : Nat) : Int))), (33, .raw (.int .i64 ((i : Nat) : Int)))] [.var [.sl 1 b.b0 (x.vols.map u8AV), .sl 1 b.b1 (x.caps.map u8AV), .sl 1 b.b2 (x.picks.map u8AV), .sl 1 b.b3 (x.unread.map u8AV), .raw (.int .u8 x.sweeps)], .var (planC b4F p), .mapo (mpI (cntL (stsS p (someS p l i)))), .vec 4 (someS p l i).length ((someS p l i).map itemAV), .vec 1 (someS p l i).length (((someS p l i).map (·.stop)).map intAV)] 5 rfl (Nat.le_of_ble_eq_true rfl) (Nat.le_of_ble_eq_true rfl) ⟨⟨_, rfl, .ptrK (Nat.le_of_ble_eq_true rfl)⟩, ⟨_, rfl, .ptrK (Nat.le_of_ble_eq_true rfl)⟩, ⟨_, rfl, .mpK (Nat.le_of_ble_eq_true rfl)⟩, ⟨_, rfl, .sloK (Nat.le_of_ble_eq_true rfl)⟩, ⟨_, rfl, .sloK (Nat.le_of_ble_eq_true rfl)⟩, ⟨_, rfl, rs_pur (by simp) rfl⟩, ⟨_, rfl, rs_pur (by simp) rfl⟩, ⟨_, rfl, rs_pur (by simp) rfl⟩, trivial⟩ ⟨ors_var ⟨rs_pur (by simp) rfl, rs_pur (by simp) rfl, rs_pur (by simp) rfl, rs_pur (by simp) rfl, rs_pur (by simp) rfl, trivial⟩, ors_var ⟨rs_pur (by simp) rfl, rs_pur (by simp) rfl, rs_pur (by simp) rfl, rs_pur (by simp) rfl, trivial⟩, ors_mpI _, ors_vec (pu_item _), ors_vec (pu_int _), trivial⟩ ?_
      refine w_reg (l := r10_15.toList) rfl r10_15_ok ?_
      refine a_op rfl (o_add rfl rfl (by simp only [klo, khi]; omega)) ?_
      refine a_op rfl (o_mv rfl) ?_
      refine a_nil ?_
      refine tq_n ?_
      have he : someS p l (i + 1) = (someS p l i) := someS_no hi (by omega)
      exact ⟨i + 1, ⟨by omega, by omega⟩, ⟨(by first | exact sub_int rfl (by omega) | rfl | exact sub_eq rfl (by rw [he]; simp) | exact sub_eq rfl (by rw [he])), (by first | exact sub_int rfl (by omega) | rfl | exact sub_eq rfl (by rw [he]; simp) | exact sub_eq rfl (by rw [he])), (by first | exact sub_int rfl (by omega) | rfl | exact sub_eq rfl (by rw [he]; simp) | exact sub_eq rfl (by rw [he])), (by first | exact sub_int rfl (by omega) | rfl | exact sub_eq rfl (by rw [he]; simp) | exact sub_eq rfl (by rw [he])), (by first | exact sub_int rfl (by omega) | rfl | exact sub_eq rfl (by rw [he]; simp) | exact sub_eq rfl (by rw [he])), (by first | exact sub_int rfl (by omega) | rfl | exact sub_eq rfl (by rw [he]; simp) | exact sub_eq rfl (by rw [he])), (by first | exact sub_int rfl (by omega) | rfl | exact sub_eq rfl (by rw [he]; simp) | exact sub_eq rfl (by rw [he])), (by first | exact sub_int rfl (by omega) | rfl | exact sub_eq rfl (by rw [he]; simp) | exact sub_eq rfl (by rw [he])), trivial⟩, by rw [he]⟩
    refine a_nil ?_
    refine tq_n ?_
    refine awp_seq ?_
    refine w_false rfl ?_
    refine awp_exit ?_
    refine tq_x ?_
    refine tq_x ?_
    refine bq_hit ?_
    refine tq_n ?_
    refine awp_seq ?_
    obtain rfl : i = l.length := by omega
    obtain ⟨S, hS⟩ : ∃ S, S = someS p l l.length := ⟨_, rfl⟩
    rw [← hS]
    refine w_keep [(1, .ptr 0 0), (3, .ptr 1 0), (7, .slo 3 S.length 0 S.length), (8, .slo 4 S.length 0 S.length)] ⟨rfl, rfl, rfl, rfl, trivial⟩ ?_
    have hsub := someS_sub (p := p) (l := l) l.length (Nat.le_refl _)
    rw [List.take_length, ← hS] at hsub
    have hSl := hsub.length_le
    have hrm := someS_room (l := l) hvol l.length (Nat.le_refl _)
    rw [← hS] at hrm
    have hSd : (S.map (·.id)).Nodup := hd.sublist (hsub.map _)
    have hSi : ∀ a ∈ S.map (·.id), 1 ≤ a ∧ a ≤ 999999 := fun a ha => hid a ((hsub.map _).subset ha)
    obtain ⟨hA1, hA2, _⟩ := roomA (sw := sw) hck hSd hrm hsw0.1
    obtain ⟨hB1, hB2, _⟩ := roomB (sw := sw) hck hSd hrm hsw0.1
    have hA1 : (twoA p sw S).over.length = 0 := by rw [hA1]; rfl
    have hB1 : (twoB p sw S).over.length = 0 := by rw [hB1]; rfl
    obtain ⟨z, hz⟩ : ∃ z, z = (twoA p sw S).swept ++ (twoB p sw S).swept := ⟨_, rfl⟩
    have hz0 : ∀ v ∈ z, v = 0 := fun v hv => by rw [hz] at hv; exact (List.mem_append.1 hv).elim (hA2 v) (hB2 v)
    have hA := play_small (sw := sw) hck.r hsw0.1 (firstL_in hck S)
    have hB := play_small (sw := sw) hck.r hsw0.1 (secondL_in hck sw S)
    have hzl : z.length = (twoA p sw S).swept.length + (twoB p sw S).swept.length := by rw [hz, List.length_append]
    rw [show playF p.caps sw (firstL p S) = twoA p sw S from rfl] at hA
    rw [show playF p.caps sw (secondL p sw S) = twoB p sw S from rfl] at hB
    obtain ⟨T, hT⟩ : ∃ T, T = S.map rdT := ⟨_, rfl⟩
    have hTl : T.length = S.length := by rw [hT]; simp
    have hTd : (T.map (·.id)).Nodup := by rw [hT, rdT_ids]; exact hSd
    have hTi : ∀ a ∈ T.map (·.id), 1 ≤ a ∧ a ≤ 999999 := by rw [hT, rdT_ids]; exact hSi
    have hso := sort_of hck hrm (by omega)
    have hor := order_room hck hSd hrm (by omega)
    rw [← hT] at hor
    have hol := ord2_len hck hso
    rw [List.length_map] at hol
    have hrl : (twoB p 0 T).rows.flatten.length = S.length := by rw [hor, List.length_map]; exact hol
    refine w_reg (l := r10_16.toList) rfl r10_16_ok ?_
    refine a_op rfl ((by first | exact o_ldg tg51 tn51 rfl rfl | exact o_ldpg tg51 tn51 rfl rfl rfl rfl)) ?_
    refine a_op rfl ((by first | exact o_fa tf82_4 rfl rfl | exact o_fap tf82_4 rfl rfl)) ?_
    refine a_op rfl ((by first | exact o_ld tg5 rfl rfl | exact o_ldp tg5 rfl rfl rfl rfl)) ?_
    refine a_op rfl (o_rem rfl rfl (by omega) (by omega)) ?_
    rw [← hsw]
    refine a_op rfl (o_cv tk5 tk3 rfl (by simp only [klo, khi]; omega)) ?_
    refine a_op rfl (o_mv rfl) ?_
    refine a_lendF (vs' := [planAV b4F p, .raw (.int .i64 sw), .sl 4 fL (S.map itemAV)]) rfl rfl rfl cb26 (two_okG b4F sw _ hck (by omega) (by omega) (by omega) hSd hSi) ⟨ln_eq (by simp) rfl, ln_eq (by simp) rfl, ln_slo (i := 3) rfl (by simp) (pu_item _) rfl, trivial⟩ (by simp) ?_
    refine a_op rfl (o_mv rfl) ?_
    refine a_op rfl (o_ex rfl rfl) ?_
    refine a_op rfl (o_ex rfl rfl) ?_
    refine a_op rfl (o_al (N := 5) tz62 rfl rfl rfl) ?_
    refine a_op0 rfl (o_st (N := 10) tn62 rfl rfl rfl rfl rfl) ?_
    refine a_op rfl (o_as rfl) ?_
    refine a_nil ?_
    refine tq_n ?_
    refine awp_seq ?_
    refine awp_seq ?_
    refine w_reg (l := r10_17.toList) rfl r10_17_ok ?_
    refine a_op rfl (o_mv rfl) ?_
    refine a_op rfl (elD (o_ne rfl rfl) (w := .raw (.bool false)) rfl) ?_
    refine a_op rfl (o_mv rfl) ?_
    refine a_op rfl ((by first | exact o_fa tf62_0 rfl rfl | exact o_fap tf62_0 rfl rfl)) ?_
    refine a_op rfl ((by first | exact o_fa tf60_2 rfl rfl | exact o_fap tf60_2 rfl rfl)) ?_
    refine a_op rfl ((by first | exact o_ld tg34 rfl rfl | exact o_ldp tg34 rfl rfl rfl rfl)) ?_
    refine a_op rfl (o_len rfl rfl (by first | exact List.length_map .. | rfl) tl34) ?_
    refine a_if rfl (o_ne rfl rfl) (fun h7 => ?_) (fun h8 => ?_)
    · have e1 : (twoB3 p sw S).a.over.length = 0 := hA1
      omega
    refine a_op rfl (o_pkf rfl rfl) ?_
    refine a_op rfl (o_mv rfl) ?_
    refine a_op rfl ((by first | exact o_fa tf62_1 rfl rfl | exact o_fap tf62_1 rfl rfl)) ?_
    refine a_op rfl ((by first | exact o_fa tf60_2 rfl rfl | exact o_fap tf60_2 rfl rfl)) ?_
    refine a_op rfl ((by first | exact o_ld tg34 rfl rfl | exact o_ldp tg34 rfl rfl rfl rfl)) ?_
    refine a_op rfl (o_len rfl rfl (by first | exact List.length_map .. | rfl) tl34) ?_
    refine a_if rfl (o_ne rfl rfl) (fun h9 => ?_) (fun h10 => ?_)
    · have e1 : (twoB3 p sw S).b.over.length = 0 := hB1
      omega
    refine a_op rfl (o_pkf rfl rfl) ?_
    refine a_nil ?_
    refine tq_n ?_
    refine w_false rfl ?_
    refine awp_skip ?_
    refine tq_n ?_
    refine awp_seq ?_
    refine awp_seq ?_
    refine w_view [(3, .ptr 1 0), (7, .slo 3 S.length 0 S.length), (8, .slo 4 S.length 0 S.length), (12, .ptr 5 0)] [.var [.sl 1 b.b0 (x.vols.map u8AV), .sl 1 b.b1 (x.caps.map u8AV), .sl 1 b.b2 (x.picks.map u8AV), .sl 1 b.b3 (x.unread.map u8AV), .raw (.int .u8 x.sweeps)], .var (planC b4F p), .mapo (mpI (cntL (stsS p S))), .vec 4 S.length (S.map itemAV), .vec 1 S.length ((S.map (·.stop)).map intAV), .var [.sl 1 false ((twoA p sw S).rows.map rowAV), rowAV (twoA p sw S).swept, rowAV (twoA p sw S).over, rowAV (twoA p sw S).rej, .sl 3 false ((twoA p sw S).ev.map evAV), .sl 1 false ((twoB p sw S).rows.map rowAV), rowAV (twoB p sw S).swept, rowAV (twoB p sw S).over, rowAV (twoB p sw S).rej, .sl 3 false ((twoB p sw S).ev.map evAV), rowAV (twoB p sw S).rows.flatten]] 6 rfl (Nat.le_of_ble_eq_true rfl) (Nat.le_of_ble_eq_true rfl) ⟨⟨_, rfl, .ptrK (Nat.le_of_ble_eq_true rfl)⟩, ⟨_, rfl, .sloK (Nat.le_of_ble_eq_true rfl)⟩, ⟨_, rfl, .sloK (Nat.le_of_ble_eq_true rfl)⟩, ⟨_, rfl, .ptrK (Nat.le_of_ble_eq_true rfl)⟩, trivial⟩ ⟨ors_var ⟨rs_pur (by simp) rfl, rs_pur (by simp) rfl, rs_pur (by simp) rfl, rs_pur (by simp) rfl, rs_pur (by simp) rfl, trivial⟩, ors_var ⟨rs_pur (by simp) rfl, rs_pur (by simp) rfl, rs_pur (by simp) rfl, rs_pur (by simp) rfl, trivial⟩, ors_mpI _, ors_vec (pu_item _), ors_vec (pu_int _), ors_var ⟨rs_pur (by simp) rfl, rs_pur (by simp) rfl, rs_pur (by simp) rfl, rs_pur (by simp) rfl, rs_pur (by simp) rfl, rs_pur (by simp) rfl, rs_pur (by simp) rfl, rs_pur (by simp) rfl, rs_pur (by simp) rfl, rs_pur (by simp) rfl, rs_pur (by simp) rfl, trivial⟩, trivial⟩ ?_
    refine w_ph 1 (by decide) rfl ?_
    refine awp_draw ⟨[[], [], [1], [1, 2], [0, 1, 2, 3], [], [5], [5, 6], [0, 1, 2, 3, 4, 5, 6, 7], [0, 1, 2, 3, 4, 5, 6, 7, 8], []], [[], [12], [96], [97], [95, 98], [12], [100], [101], [99, 102], [103], []], [[6], [], [], [5], [6], [], [], [5], [6], [6], []], [some 6, none, none, none, some 6, none, none, none, some 6, none, none]⟩ mo r10_19_ok (by decide +kernel) (l := r10_19.toList) rfl ?_
    refine d_w rfl rfl rfl (fun _ => o_bsD tE34 (by decide) rfl rfl rfl rfl) rfl rfl rfl ?_
    refine d_op rfl rfl rfl (fun _ => (by first | exact o_fa tf62_0 rfl rfl | exact o_fap tf62_0 rfl rfl)) ?_
    refine d_op rfl rfl rfl (fun _ => (by first | exact o_fa tf60_1 rfl rfl | exact o_fap tf60_1 rfl rfl)) ?_
    refine d_op rfl rfl rfl (fun _ => (by first | exact o_ld tg34 rfl rfl | exact o_ldp tg34 rfl rfl rfl rfl)) ?_
    refine d_w rfl rfl rfl (fun _ => o_apD (out := (twoA p sw S).swept.map intAV) (len' := (twoA p sw S).swept.length) tE34 rfl rfl rfl rfl rfl (by simp) (by simp; omega) (by simp; omega) rfl (by simp) (by simp)) rfl rfl rfl ?_
    refine d_op rfl rfl rfl (fun _ => (by first | exact o_fa tf62_1 rfl rfl | exact o_fap tf62_1 rfl rfl)) ?_
    refine d_op rfl rfl rfl (fun _ => (by first | exact o_fa tf60_1 rfl rfl | exact o_fap tf60_1 rfl rfl)) ?_
    refine d_op rfl rfl rfl (fun _ => (by first | exact o_ld tg34 rfl rfl | exact o_ldp tg34 rfl rfl rfl rfl)) ?_
    refine d_w rfl rfl rfl (fun _ => o_apD (out := z.map intAV) (len' := z.length) tE34 rfl rfl (by simp) rfl rfl (by simp) (by simp; omega) (by simp; omega) rfl (by simp [hz]) (by rw [hz]; simp)) rfl rfl rfl ?_
    refine d_op rfl rfl rfl (fun _ => o_len (j := z.length) rfl rfl rfl tl34) ?_
    refine d_op rfl rfl rfl (fun _ => o_mv rfl) ?_
    refine d_nil ?_
    refine tq_n ?_
    refine awp_block ?_
    refine w_loop (fun j : Nat => j ≤ z.length) (fun j => [(3, .ptr 1 0), (7, .slo 3 S.length 0 S.length), (8, .slo 4 S.length 0 S.length), (12, .ptr 5 0), (103, .slo 6 3 0 z.length), (104, .raw (.int .i64 ((z.length : Nat) : Int))), (105, .raw (.int .i64 ((j : Nat) : Int)))]) (fun _ => [.var [.sl 1 b.b0 (x.vols.map u8AV), .sl 1 b.b1 (x.caps.map u8AV), .sl 1 b.b2 (x.picks.map u8AV), .sl 1 b.b3 (x.unread.map u8AV), .raw (.int .u8 x.sweeps)], .var (planC b4F p), .mapo (mpI (cntL (stsS p S))), .vec 4 S.length (S.map itemAV), .vec 1 S.length ((S.map (·.stop)).map intAV), .var [.sl 1 false ((twoA p sw S).rows.map rowAV), rowAV (twoA p sw S).swept, rowAV (twoA p sw S).over, rowAV (twoA p sw S).rej, .sl 3 false ((twoA p sw S).ev.map evAV), .sl 1 false ((twoB p sw S).rows.map rowAV), rowAV (twoB p sw S).swept, rowAV (twoB p sw S).over, rowAV (twoB p sw S).rej, .sl 3 false ((twoB p sw S).ev.map evAV), rowAV (twoB p sw S).rows.flatten], .vec 1 3 (z.map intAV)]) (fun j => z.length - j) (0) (by simp) ⟨(by first | exact sub_int rfl (by omega) | rfl), (by first | exact sub_int rfl (by omega) | rfl), (by first | exact sub_int rfl (by omega) | rfl), (by first | exact sub_int rfl (by omega) | rfl), (by first | exact sub_int rfl (by omega) | rfl), (by first | exact sub_int rfl (by omega) | rfl), (by first | exact sub_int rfl (by omega) | rfl), trivial⟩ rfl ?_
    intro j hpj
    unfold b10_1
    refine awp_seq ?_
    refine w_reg (l := r10_20.toList) rfl r10_20_ok ?_
    refine a_if rfl (o_lt rfl rfl) (fun h11 => ?_) (fun h12 => ?_)
    · refine a_nil ?_
      refine tq_n ?_
      refine awp_seq ?_
      refine w_true rfl ?_
      refine awp_skip ?_
      refine tq_n ?_
      refine awp_seq ?_
      refine awp_block ?_
      refine awp_seq ?_
      have hj : j < z.length := by omega
      have hzj := hz0 _ (List.getElem_mem hj)
      refine w_reg (l := r10_21.toList) rfl r10_21_ok ?_
      refine a_op rfl (o_ixo te34 tn3 rfl rfl rfl rfl hj) ?_
      refine a_op rfl (o_ldp (el := intAV z[j]) tg3 rfl rfl (by rw [Nat.zero_add]; exact mAt hj) rfl) ?_
      refine a_op rfl (o_as rfl) ?_
      refine a_nil ?_
      refine tq_n ?_
      refine awp_seq ?_
      refine w_reg (l := r10_22.toList) rfl r10_22_ok ?_
      refine a_op rfl (o_mv rfl) ?_
      refine a_if rfl (o_ne rfl rfl) (fun h13 => ?_) (fun h14 => ?_)
      · omega
      refine a_nil ?_
      refine tq_n ?_
      refine w_false rfl ?_
      refine awp_skip ?_
      refine bq_n ?_
      refine tq_n ?_
      refine w_reg (l := r10_24.toList) rfl r10_24_ok ?_
      refine a_op rfl (o_add rfl rfl (by simp only [klo, khi]; omega)) ?_
      refine a_op rfl (o_mv rfl) ?_
      refine a_nil ?_
      refine tq_n ?_
      exact ⟨j + 1, ⟨by omega, by omega⟩, ⟨(by first | exact sub_int rfl (by omega) | rfl), (by first | exact sub_int rfl (by omega) | rfl), (by first | exact sub_int rfl (by omega) | rfl), (by first | exact sub_int rfl (by omega) | rfl), (by first | exact sub_int rfl (by omega) | rfl), (by first | exact sub_int rfl (by omega) | rfl), (by first | exact sub_int rfl (by omega) | rfl), trivial⟩, rfl⟩
    refine a_nil ?_
    refine tq_n ?_
    refine awp_seq ?_
    refine w_false rfl ?_
    refine awp_exit ?_
    refine tq_x ?_
    refine tq_x ?_
    refine bq_hit ?_
    refine tq_n ?_
    refine awp_seq ?_
    refine awp_seq ?_
    refine w_view [(3, .ptr 1 0), (7, .slo 3 S.length 0 S.length), (8, .slo 4 S.length 0 S.length), (12, .ptr 5 0)] [.var [.sl 1 b.b0 (x.vols.map u8AV), .sl 1 b.b1 (x.caps.map u8AV), .sl 1 b.b2 (x.picks.map u8AV), .sl 1 b.b3 (x.unread.map u8AV), .raw (.int .u8 x.sweeps)], .var (planC b4F p), .mapo (mpI (cntL (stsS p S))), .vec 4 S.length (S.map itemAV), .vec 1 S.length ((S.map (·.stop)).map intAV), .var [.sl 1 false ((twoA p sw S).rows.map rowAV), rowAV (twoA p sw S).swept, rowAV (twoA p sw S).over, rowAV (twoA p sw S).rej, .sl 3 false ((twoA p sw S).ev.map evAV), .sl 1 false ((twoB p sw S).rows.map rowAV), rowAV (twoB p sw S).swept, rowAV (twoB p sw S).over, rowAV (twoB p sw S).rej, .sl 3 false ((twoB p sw S).ev.map evAV), rowAV (twoB p sw S).rows.flatten]] 6 rfl (Nat.le_of_ble_eq_true rfl) (Nat.le_of_ble_eq_true rfl) ⟨⟨_, rfl, .ptrK (Nat.le_of_ble_eq_true rfl)⟩, ⟨_, rfl, .sloK (Nat.le_of_ble_eq_true rfl)⟩, ⟨_, rfl, .sloK (Nat.le_of_ble_eq_true rfl)⟩, ⟨_, rfl, .ptrK (Nat.le_of_ble_eq_true rfl)⟩, trivial⟩ ⟨ors_var ⟨rs_pur (by simp) rfl, rs_pur (by simp) rfl, rs_pur (by simp) rfl, rs_pur (by simp) rfl, rs_pur (by simp) rfl, trivial⟩, ors_var ⟨rs_pur (by simp) rfl, rs_pur (by simp) rfl, rs_pur (by simp) rfl, rs_pur (by simp) rfl, trivial⟩, ors_mpI _, ors_vec (pu_item _), ors_vec (pu_int _), ors_var ⟨rs_pur (by simp) rfl, rs_pur (by simp) rfl, rs_pur (by simp) rfl, rs_pur (by simp) rfl, rs_pur (by simp) rfl, rs_pur (by simp) rfl, rs_pur (by simp) rfl, rs_pur (by simp) rfl, rs_pur (by simp) rfl, rs_pur (by simp) rfl, rs_pur (by simp) rfl, trivial⟩, trivial⟩ ?_
    refine w_reg (l := r10_25.toList) rfl r10_25_ok ?_
    refine a_op rfl (o_mv rfl) ?_
    refine a_op rfl (o_len (q := S.length) (j := S.length) rfl (len_slo rfl) rfl tl43) ?_
    refine a_op rfl (o_mv rfl) ?_
    refine a_nil ?_
    refine tq_n ?_
    refine awp_block ?_
    refine w_loop (fun j : Nat => j ≤ S.length) (fun j => [(3, .ptr 1 0), (7, .slo 3 S.length 0 S.length), (8, .slo 4 S.length 0 S.length), (12, .ptr 5 0), (113, .raw (.int .i64 ((S.length : Nat) : Int))), (114, .raw (.int .i64 ((j : Nat) : Int)))]) (fun j => [.var [.sl 1 b.b0 (x.vols.map u8AV), .sl 1 b.b1 (x.caps.map u8AV), .sl 1 b.b2 (x.picks.map u8AV), .sl 1 b.b3 (x.unread.map u8AV), .raw (.int .u8 x.sweeps)], .var (planC b4F p), .mapo (mpI (cntL (stsS p S))), .vec 4 S.length ((fillT S j).map itemAV), .vec 1 S.length ((S.map (·.stop)).map intAV), .var [.sl 1 false ((twoA p sw S).rows.map rowAV), rowAV (twoA p sw S).swept, rowAV (twoA p sw S).over, rowAV (twoA p sw S).rej, .sl 3 false ((twoA p sw S).ev.map evAV), .sl 1 false ((twoB p sw S).rows.map rowAV), rowAV (twoB p sw S).swept, rowAV (twoB p sw S).over, rowAV (twoB p sw S).rej, .sl 3 false ((twoB p sw S).ev.map evAV), rowAV (twoB p sw S).rows.flatten]]) (fun j => S.length - j) (0) (by simp) ⟨(by first | exact sub_int rfl (by omega) | rfl), (by first | exact sub_int rfl (by omega) | rfl), (by first | exact sub_int rfl (by omega) | rfl), (by first | exact sub_int rfl (by omega) | rfl), (by first | exact sub_int rfl (by omega) | rfl), (by first | exact sub_int rfl (by omega) | rfl), trivial⟩ (by rw [show fillT S 0 = S by simp [fillT]]) ?_
    intro j hpk
    unfold b10_2
    refine awp_seq ?_
    refine w_reg (l := r10_26.toList) rfl r10_26_ok ?_
    refine a_if rfl (o_lt rfl rfl) (fun h15 => ?_) (fun h16 => ?_)
    · refine a_nil ?_
      refine tq_n ?_
      refine awp_seq ?_
      refine w_true rfl ?_
      refine awp_skip ?_
      refine tq_n ?_
      refine awp_seq ?_
      refine awp_block ?_
      refine awp_seq ?_
      have hj : j < S.length := by omega
      refine w_reg (l := r10_27.toList) rfl r10_27_ok ?_
      refine a_op rfl (o_mv rfl) ?_
      refine a_op rfl (o_as rfl) ?_
      refine a_nil ?_
      refine tq_n ?_
      refine w_reg (l := r10_28.toList) rfl r10_28_ok ?_
      refine a_op rfl (o_mv rfl) ?_
      refine a_op rfl (o_mv rfl) ?_
      refine a_op rfl (o_mv rfl) ?_
      refine a_op rfl (o_mv rfl) ?_
      refine a_op rfl (o_ixo (j := j) te43 tn45 rfl rfl rfl rfl hj) ?_
      refine a_op rfl ((by first | exact o_fa tf45_2 rfl rfl | exact o_fap tf45_2 rfl rfl)) ?_
      refine a_opH0 rfl (o_stp (N := 0) (el := itemAV S[j]) tn4 rfl rfl rfl rfl rfl (fillT_at hj) rfl (Nat.le_of_ble_eq_true rfl)) (H' := [.var [.sl 1 b.b0 (x.vols.map u8AV), .sl 1 b.b1 (x.caps.map u8AV), .sl 1 b.b2 (x.picks.map u8AV), .sl 1 b.b3 (x.unread.map u8AV), .raw (.int .u8 x.sweeps)], .var (planC b4F p), .mapo (mpI (cntL (stsS p S))), .vec 4 S.length (((fillT S j).set j ⟨S[j].id, S[j].stop, true, S[j].rd2⟩).map itemAV), .vec 1 S.length ((S.map (·.stop)).map intAV), .var [.sl 1 false ((twoA p sw S).rows.map rowAV), rowAV (twoA p sw S).swept, rowAV (twoA p sw S).over, rowAV (twoA p sw S).rej, .sl 3 false ((twoA p sw S).ev.map evAV), .sl 1 false ((twoB p sw S).rows.map rowAV), rowAV (twoB p sw S).swept, rowAV (twoB p sw S).over, rowAV (twoB p sw S).rej, .sl 3 false ((twoB p sw S).ev.map evAV), rowAV (twoB p sw S).rows.flatten]]) (by simp only [List.map_set, Nat.zero_add]; rfl) ?_
      refine a_op rfl (o_ixo (j := j) te43 tn45 rfl rfl rfl rfl hj) ?_
      refine a_op rfl ((by first | exact o_fa tf45_3 rfl rfl | exact o_fap tf45_3 rfl rfl)) ?_
      refine a_opH0 rfl (o_stp (N := 0) (el := itemAV ⟨S[j].id, S[j].stop, true, S[j].rd2⟩) tn4 rfl rfl rfl rfl rfl (set_at (by rw [fillT_len]; exact hj)) rfl (Nat.le_of_ble_eq_true rfl)) (H' := [.var [.sl 1 b.b0 (x.vols.map u8AV), .sl 1 b.b1 (x.caps.map u8AV), .sl 1 b.b2 (x.picks.map u8AV), .sl 1 b.b3 (x.unread.map u8AV), .raw (.int .u8 x.sweeps)], .var (planC b4F p), .mapo (mpI (cntL (stsS p S))), .vec 4 S.length (((fillT S j).set j (rdT S[j])).map itemAV), .vec 1 S.length ((S.map (·.stop)).map intAV), .var [.sl 1 false ((twoA p sw S).rows.map rowAV), rowAV (twoA p sw S).swept, rowAV (twoA p sw S).over, rowAV (twoA p sw S).rej, .sl 3 false ((twoA p sw S).ev.map evAV), .sl 1 false ((twoB p sw S).rows.map rowAV), rowAV (twoB p sw S).swept, rowAV (twoB p sw S).over, rowAV (twoB p sw S).rej, .sl 3 false ((twoB p sw S).ev.map evAV), rowAV (twoB p sw S).rows.flatten]]) (by simp only [List.map_set, Nat.zero_add, List.set_set]; rfl) ?_
      refine a_nil ?_
      refine bq_n ?_
      refine tq_n ?_
      refine w_reg (l := r10_29.toList) rfl r10_29_ok ?_
      refine a_op rfl (o_add rfl rfl (by simp only [klo, khi]; omega)) ?_
      refine a_op rfl (o_mv rfl) ?_
      refine a_nil ?_
      refine tq_n ?_
      exact ⟨j + 1, ⟨by omega, by omega⟩, ⟨(by first | exact sub_int rfl (by omega) | rfl), (by first | exact sub_int rfl (by omega) | rfl), (by first | exact sub_int rfl (by omega) | rfl), (by first | exact sub_int rfl (by omega) | rfl), (by first | exact sub_int rfl (by omega) | rfl), (by first | exact sub_int rfl (by omega) | rfl), trivial⟩, by rw [← fillT_set hj _ rfl]⟩
    refine a_nil ?_
    refine tq_n ?_
    refine awp_seq ?_
    refine w_false rfl ?_
    refine awp_exit ?_
    refine tq_x ?_
    refine tq_x ?_
    refine bq_hit ?_
    refine tq_n ?_
    refine awp_seq ?_
    obtain rfl : j = S.length := by omega
    refine w_heq (H1 := [.var [.sl 1 b.b0 (x.vols.map u8AV), .sl 1 b.b1 (x.caps.map u8AV), .sl 1 b.b2 (x.picks.map u8AV), .sl 1 b.b3 (x.unread.map u8AV), .raw (.int .u8 x.sweeps)], .var (planC b4F p), .mapo (mpI (cntL (stsS p S))), .vec 4 S.length (T.map itemAV), .vec 1 S.length ((S.map (·.stop)).map intAV), .var [.sl 1 false ((twoA p sw S).rows.map rowAV), rowAV (twoA p sw S).swept, rowAV (twoA p sw S).over, rowAV (twoA p sw S).rej, .sl 3 false ((twoA p sw S).ev.map evAV), .sl 1 false ((twoB p sw S).rows.map rowAV), rowAV (twoB p sw S).swept, rowAV (twoB p sw S).over, rowAV (twoB p sw S).rej, .sl 3 false ((twoB p sw S).ev.map evAV), rowAV (twoB p sw S).rows.flatten]]) (by rw [fillT_all, ← hT]) ?_
    refine w_keep [(3, .ptr 1 0), (7, .slo 3 S.length 0 S.length), (8, .slo 4 S.length 0 S.length), (12, .ptr 5 0)] ⟨rfl, rfl, rfl, rfl, trivial⟩ ?_
    refine w_reg (l := r10_30.toList) rfl r10_30_ok ?_
    refine a_op rfl ((by first | exact o_ldg tg51 tn51 rfl rfl | exact o_ldpg tg51 tn51 rfl rfl rfl rfl)) ?_
    refine a_op rfl (o_mv rfl) ?_
    refine a_lendF (vs' := [planAV b4F p, .raw (.int .i64 0), .sl 4 fL (T.map itemAV)]) rfl rfl rfl cb26 (two_okG b4F 0 _ hck (by omega) (by omega) (by omega) hTd hTi) ⟨ln_eq (by simp) rfl, ln_eq (by simp) rfl, ln_slo (i := 3) rfl (by rw [List.length_map, hTl]) (pu_item _) rfl, trivial⟩ (by simp) ?_
    refine a_op rfl (o_mv rfl) ?_
    refine a_op rfl (o_ex rfl rfl) ?_
    refine a_op rfl (o_ex rfl rfl) ?_
    refine a_op0 rfl (o_st (N := 10) tn62 rfl rfl rfl rfl rfl) ?_
    refine a_op rfl (o_as rfl) ?_
    refine a_nil ?_
    refine tq_n ?_
    refine awp_seq ?_
    refine w_reg (l := r10_31.toList) rfl r10_31_ok ?_
    refine a_op rfl ((by first | exact o_ldg tg51 tn51 rfl rfl | exact o_ldpg tg51 tn51 rfl rfl rfl rfl)) ?_
    refine a_op rfl (o_mv rfl) ?_
    refine a_lendF (vs' := [planAV b4F p, .sl 1 fL ((S.map (·.stop)).map intAV)]) rfl rfl rfl cb38 (sort38_ok b4F hck _ hso) ⟨ln_eq (by simp) rfl, ln_slo (i := 4) rfl (by simp) (pu_int _) rfl, trivial⟩ (by simp [sortAV]) ?_
    refine a_op rfl (o_mv rfl) ?_
    refine a_op rfl (o_ex rfl rfl) ?_
    refine a_op rfl (o_ex rfl rfl) ?_
    refine a_op rfl (o_al (N := 6) tz94 rfl rfl rfl) ?_
    refine a_op0 rfl (o_st (N := 2) tn94 rfl rfl rfl rfl rfl) ?_
    refine a_op rfl (o_as rfl) ?_
    refine a_nil ?_
    refine tq_n ?_
    refine awp_seq ?_
    refine awp_seq ?_
    refine w_reg (l := r10_32.toList) rfl r10_32_ok ?_
    refine a_op rfl (o_mv rfl) ?_
    refine a_op rfl (o_mv rfl) ?_
    refine a_op rfl (o_add rfl rfl (by simp only [klo, khi]; omega)) ?_
    refine a_op rfl (elD (o_ne rfl rfl) (w := .raw (.bool false)) rfl) ?_
    refine a_op rfl (o_mv rfl) ?_
    refine a_op rfl ((by first | exact o_fa tf62_2 rfl rfl | exact o_fap tf62_2 rfl rfl)) ?_
    refine a_op rfl ((by first | exact o_ld tg34 rfl rfl | exact o_ldp tg34 rfl rfl rfl rfl)) ?_
    refine a_op rfl (o_len rfl rfl (by first | exact List.length_map .. | rfl) tl34) ?_
    refine a_op rfl ((by first | exact o_fa tf94_2 rfl rfl | exact o_fap tf94_2 rfl rfl)) ?_
    refine a_op rfl ((by first | exact o_ld tg34 rfl rfl | exact o_ldp tg34 rfl rfl rfl rfl)) ?_
    refine a_op rfl (o_len rfl rfl (by first | exact List.length_map .. | rfl) tl34) ?_
    refine a_if rfl (o_ne rfl rfl) (fun h17 => ?_) (fun h18 => ?_)
    · have e1 : (twoB3 p 0 T).o.length = S.length := hrl
      omega
    refine a_op rfl (o_pkf rfl rfl) ?_
    refine a_op rfl (o_mv rfl) ?_
    refine a_op rfl ((by first | exact o_fa tf62_2 rfl rfl | exact o_fap tf62_2 rfl rfl)) ?_
    refine a_op rfl ((by first | exact o_ld tg34 rfl rfl | exact o_ldp tg34 rfl rfl rfl rfl)) ?_
    refine a_op rfl (o_len rfl rfl (by first | exact List.length_map .. | rfl) tl34) ?_
    refine a_op rfl (o_mv rfl) ?_
    refine a_op rfl (o_len (q := S.length) (j := S.length) rfl (len_slo rfl) rfl tl43) ?_
    refine a_if rfl (o_ne rfl rfl) (fun h19 => ?_) (fun h20 => ?_)
    · have e1 : (twoB3 p 0 T).o.length = S.length := hrl
      omega
    refine a_op rfl (o_pkf rfl rfl) ?_
    refine a_nil ?_
    refine tq_n ?_
    refine w_false rfl ?_
    refine awp_skip ?_
    refine tq_n ?_
    refine awp_seq ?_
    refine awp_seq ?_
    refine w_reg (l := r10_34.toList) rfl r10_34_ok ?_
    refine a_op rfl ((by first | exact o_fa tf94_2 rfl rfl | exact o_fap tf94_2 rfl rfl)) ?_
    refine a_op rfl ((by first | exact o_ld tg34 rfl rfl | exact o_ldp tg34 rfl rfl rfl rfl)) ?_
    refine a_op rfl (o_len rfl rfl (by first | exact List.length_map .. | rfl) tl34) ?_
    refine a_op rfl (o_mv rfl) ?_
    refine a_nil ?_
    refine tq_n ?_
    refine awp_block ?_
    refine w_loop (fun j : Nat => j ≤ (ord2 p (S.map (·.stop))).length) (fun j => [(7, .slo 3 S.length 0 S.length), (12, .ptr 5 0), (160, rowAV (ord2 p (S.map (·.stop)))), (161, .raw (.int .i64 (((ord2 p (S.map (·.stop))).length : Nat) : Int))), (162, .raw (.int .i64 ((j : Nat) : Int)))]) (fun _ => [.var [.sl 1 b.b0 (x.vols.map u8AV), .sl 1 b.b1 (x.caps.map u8AV), .sl 1 b.b2 (x.picks.map u8AV), .sl 1 b.b3 (x.unread.map u8AV), .raw (.int .u8 x.sweeps)], .var (planC b4F p), .mapo (mpI (cntL (stsS p S))), .vec 4 S.length (T.map itemAV), .vec 1 S.length ((S.map (·.stop)).map intAV), .var [.sl 1 false ((twoA p 0 T).rows.map rowAV), rowAV (twoA p 0 T).swept, rowAV (twoA p 0 T).over, rowAV (twoA p 0 T).rej, .sl 3 false ((twoA p 0 T).ev.map evAV), .sl 1 false ((twoB p 0 T).rows.map rowAV), rowAV (twoB p 0 T).swept, rowAV (twoB p 0 T).over, rowAV (twoB p 0 T).rej, .sl 3 false ((twoB p 0 T).ev.map evAV), rowAV (twoB p 0 T).rows.flatten], .var [.sl 1 false ((row1 p (S.map (·.stop))).map rowAV), .sl 1 false ((row2 p (S.map (·.stop))).map rowAV), rowAV (ord2 p (S.map (·.stop)))]]) (fun j => (ord2 p (S.map (·.stop))).length - j) (0) (by simp) ⟨(by first | exact sub_int rfl (by omega) | rfl), (by first | exact sub_int rfl (by omega) | rfl), (by first | exact sub_int rfl (by omega) | rfl), (by first | exact sub_int rfl (by omega) | rfl), (by first | exact sub_int rfl (by omega) | rfl), trivial⟩ rfl ?_
    intro j hpq
    unfold b10_3
    refine awp_seq ?_
    refine w_reg (l := r10_35.toList) rfl r10_35_ok ?_
    refine a_if rfl (o_lt rfl rfl) (fun h21 => ?_) (fun h22 => ?_)
    · refine a_nil ?_
      refine tq_n ?_
      refine awp_seq ?_
      refine w_true rfl ?_
      refine awp_skip ?_
      refine tq_n ?_
      refine awp_seq ?_
      refine awp_block ?_
      refine awp_seq ?_
      have hj : j < (ord2 p (S.map (·.stop))).length := by omega
      have hin2 := ord1_in hck hso _ ((ord2_perm hck hso).mem_iff.1 (List.getElem_mem hj))
      rw [List.length_map] at hin2
      obtain ⟨a, ha⟩ : ∃ a : Nat, (ord2 p (S.map (·.stop)))[j] = a := ⟨(ord2 p (S.map (·.stop)))[j].toNat, by omega⟩
      have hal : a < S.length := by omega
      have haT : a < T.length := by omega
      have hjr : j < (twoB p 0 T).rows.flatten.length := by omega
      have hrj : (twoB p 0 T).rows.flatten[j] = T[a].id := by
        have h1 := congrArg (fun q => q[j]?) hor
        simp only [List.getElem?_eq_getElem hjr, List.getElem?_map, List.getElem?_eq_getElem hj, Option.map_some, Option.some.injEq] at h1
        rw [h1, ha, idAt_get haT]
      have hat : (T.map itemAV)[0 + a]? = some (itemAV T[a]) := by rw [Nat.zero_add]; exact ixm _ _ _ haT
      refine w_reg (l := r10_36.toList) rfl r10_36_ok ?_
      refine a_op rfl (o_mv rfl) ?_
      refine a_op rfl (o_ix te34 tn3 rfl rfl rfl (ixm _ _ _ hj)) ?_
      refine a_op rfl ((by first | exact o_ld tg3 rfl rfl | exact o_ldp tg3 rfl rfl rfl rfl)) ?_
      refine a_op rfl (o_as rfl) ?_
      refine a_op rfl (o_as rfl) ?_
      refine a_nil ?_
      refine tq_n ?_
      refine awp_seq ?_
      refine awp_draw ⟨[[], [0], [0, 1], [0, 1, 2], [0, 1, 2], [0, 1, 2, 4], [0, 1, 2, 3, 4, 5], [0, 1, 2, 3, 4, 5, 6], [0, 1, 2, 3, 4, 5, 6, 7], [0, 1, 2, 3, 4, 5, 6, 7, 8], [0, 1, 2, 3, 4, 5, 6, 7, 8, 9], [0, 1, 2, 3, 4, 5, 6, 7, 8], [0, 1, 2, 3, 4, 5, 6, 7, 8, 9, 10, 11], [0, 1, 2, 3, 4, 5, 6, 7, 8, 9, 10, 11, 12], [0, 1, 2, 3, 4, 5, 6, 7, 8], [0, 1, 2, 3, 4, 5, 6, 7, 8], [0, 1, 2, 3, 4, 5, 6, 7, 8, 14, 15], [0, 1, 2, 3, 4, 5, 6, 7, 8, 14, 15, 16], [0, 1, 2, 3, 4, 5, 6, 7, 8, 14, 15, 16, 17], [0, 1, 2, 3, 4, 5, 6, 7, 8, 9, 10, 11, 12, 13, 14, 15, 16, 17, 18], [0, 1, 2, 3, 4, 5, 6, 7, 8, 9, 10, 11, 12, 13, 14, 15, 16, 17, 18, 19]], [[20], [167], [168], [20, 169], [7, 169], [169, 171], [169, 170, 172], [169, 173], [174], [12, 175], [175, 176], [19, 175], [175, 177, 178], [175, 179], [7, 175], [20, 175], [175, 181, 182], [175, 183], [175, 184], [175, 180, 185], [175, 186]], [[], [], [], [], [], [3], [], [], [], [], [5], [], [], [], [], [], [3], [3], [3], [], []], [none, none, none, none, none, none, none, none, none, none, none, none, none, none, none, none, none, none, none, none, none]⟩ mo r10_37_ok (by decide +kernel) (l := r10_37.toList) rfl ?_
      refine d_op rfl rfl rfl (fun _ => o_mv rfl) ?_
      refine d_if rfl rfl rfl (fun _ => o_lt rfl rfl) (fun h23 => ?_) (fun h24 => ?_)
      · omega
      refine d_op rfl rfl rfl (fun _ => o_mv rfl) ?_
      refine d_op rfl rfl rfl (fun _ => o_mv rfl) ?_
      refine d_op rfl rfl rfl (fun _ => o_mv rfl) ?_
      refine d_op rfl rfl rfl (fun _ => o_len (q := S.length) (j := S.length) rfl (len_slo rfl) rfl tl43) ?_
      refine d_if rfl rfl rfl (fun _ => o_ge rfl rfl) (fun h25 => ?_) (fun h26 => ?_)
      · omega
      refine d_op rfl rfl rfl (fun _ => o_pkf rfl rfl) ?_
      refine d_op rfl rfl rfl (fun _ => o_mv rfl) ?_
      refine d_op rfl rfl rfl (fun _ => (by first | exact o_fa tf62_2 rfl rfl | exact o_fap tf62_2 rfl rfl)) ?_
      refine d_op rfl rfl rfl (fun _ => (by first | exact o_ld tg34 rfl rfl | exact o_ldp tg34 rfl rfl rfl rfl)) ?_
      refine d_op rfl rfl rfl (fun _ => o_mv rfl) ?_
      refine d_op rfl rfl rfl (fun _ => o_ix te34 tn3 rfl rfl rfl (ixm _ _ _ hjr)) ?_
      refine d_op rfl rfl rfl (fun _ => (by first | exact o_ld tg3 rfl rfl | exact o_ldp tg3 rfl rfl rfl rfl)) ?_
      refine d_op rfl rfl rfl (fun _ => o_mv rfl) ?_
      refine d_op rfl rfl rfl (fun _ => o_mv rfl) ?_
      refine d_op rfl rfl rfl (fun _ => o_ixo (j := a) te43 tn45 rfl rfl rfl ha hal) ?_
      refine d_op rfl rfl rfl (fun _ => (by first | exact o_fa tf45_0 rfl rfl | exact o_fap tf45_0 rfl rfl)) ?_
      refine d_op rfl rfl rfl (fun _ => o_ldp (el := itemAV T[a]) tg3 rfl rfl hat rfl) ?_
      refine d_if rfl rfl rfl (fun _ => o_ne rfl rfl) (fun h27 => ?_) (fun h28 => ?_)
      · omega
      refine d_op rfl rfl rfl (fun _ => o_pkf rfl rfl) ?_
      refine d_nil ?_
      refine tq_n ?_
      refine w_false rfl ?_
      refine awp_skip ?_
      refine bq_n ?_
      refine tq_n ?_
      refine w_reg (l := r10_39.toList) rfl r10_39_ok ?_
      refine a_op rfl (o_add rfl rfl (by simp only [klo, khi]; omega)) ?_
      refine a_op rfl (o_mv rfl) ?_
      refine a_nil ?_
      refine tq_n ?_
      exact ⟨j + 1, ⟨by omega, by omega⟩, ⟨(by first | exact sub_int rfl (by omega) | rfl), (by first | exact sub_int rfl (by omega) | rfl), (by first | exact sub_int rfl (by omega) | rfl), (by first | exact sub_int rfl (by omega) | rfl), (by first | exact sub_int rfl (by omega) | rfl), trivial⟩, rfl⟩
    refine a_nil ?_
    refine tq_n ?_
    refine awp_seq ?_
    refine w_false rfl ?_
    refine awp_exit ?_
    refine tq_x ?_
    refine tq_x ?_
    refine bq_hit ?_
    refine tq_n ?_
    refine awp_seq ?_
    refine w_reg (l := r10_40.toList) rfl r10_40_ok ?_
    refine a_pure rfl rfl rfl cb32 awake_ok ?_
    refine a_op rfl (o_as rfl) ?_
    refine a_nil ?_
    refine tq_n ?_
    refine awp_ret ?_
    refine r_one rfl ⟨rfl, trivial⟩ ?_
    exact rs_pur (by simp) rfl
  refine a_pure rfl rfl rfl cb34 (built_bad b x hx hP) ?_
  refine a_op rfl (o_mv rfl) ?_
  refine a_op rfl (o_ex rfl rfl) ?_
  refine a_op rfl (o_ex rfl rfl) ?_
  refine a_op rfl (o_ex rfl rfl) ?_
  refine a_op rfl (o_al (N := 1) tz51 rfl rfl rfl) ?_
  refine a_op0 rfl (o_st (N := 3) tn51 rfl rfl rfl rfl rfl) ?_
  refine a_op rfl (o_as rfl) ?_
  refine a_op rfl (o_as rfl) ?_
  refine a_nil ?_
  refine tq_n ?_
  refine awp_seq ?_
  refine awp_seq ?_
  refine w_reg (l := r10_2.toList) rfl r10_2_ok ?_
  refine a_op rfl (o_mv rfl) ?_
  refine a_op rfl (o_ntf rfl) ?_
  refine a_nil ?_
  refine tq_n ?_
  refine w_true rfl ?_
  refine awp_seq ?_
  refine w_reg (l := r10_3.toList) rfl r10_3_ok ?_
  refine a_pure rfl rfl rfl cb32 awake_ok ?_
  refine a_op rfl (o_as rfl) ?_
  refine a_nil ?_
  refine tq_n ?_
  refine awp_ret ?_
  refine tq_r ?_
  refine r_one rfl ⟨rfl, trivial⟩ ?_
  exact rs_pur (by simp) rfl
end Go.Ab.S
