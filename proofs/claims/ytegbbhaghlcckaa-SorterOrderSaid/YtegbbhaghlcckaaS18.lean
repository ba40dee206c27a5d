/- What functions of this program compute, and the laws of what they compute, under the bounds on lengths that each contract states. -/
import Derived.Test.YtegbbhaghlcckaaK11
import Derived.Test.YtegbbhaghlcckaaK10

set_option linter.unusedSimpArgs false
set_option linter.unusedVariables false
namespace Go.Ab.S
open Go Go.Ab Go.Proofs
theorem o_lkI1 {F : Frm} {H : Heap} {x i : Operand} {n : Nat} {l : List (Int × Int)} {k v : Int} (hx : evx F x = some (.mp n)) (hH : nthX H n = some (.mapo (mpI l))) (hi : evx F i = some (.raw (.int .i64 k))) (hy : mget l k = some v) :
    OpOk Try.prog (.lookup 38 x i true) F H (.tup [intAV v, .raw (.bool true)]) H := by
  have := o_lkI hx hH hi
  simp only [hy, Option.getD_some, Option.isSome_some] at this
  exact this
def all5 (p : PlanR) (sw : Int) (l : List ItemR) : List (List Int) := [readL p sw l, (twoA p sw l).over, (twoA p sw l).rej, (twoB p sw l).over, (twoB p sw l).rej]
theorem pos_in {l : List ItemR} (hd : (l.map (·.id)).Nodup) {a : Int} (ha : a ∈ l.map (·.id)) : ∃ n : Nat, ∃ hn : n < l.length, l[n].id = a ∧ mget (posM (l.map (·.id)) l.length) a = some (n : Int) := by
  obtain ⟨n, hn, e⟩ := List.getElem_of_mem ha
  have hn' : n < l.length := by simpa using hn
  refine ⟨n, hn', by rw [← e, List.getElem_map], ?_⟩
  rw [← e]
  exact posM_get hd _ (by simp) n hn' hn
theorem pos_read {p : PlanR} {sw : Int} {l : List ItemR} (h : CheckOk p) (hd : (l.map (·.id)).Nodup) (h0 : 0 ≤ sw) {i : Nat} (hi : i < (readL p sw l).length) : ∃ n : Nat, ∃ hn : n < l.length, l[n].id = (readL p sw l)[i] ∧ mget (posM (l.map (·.id)) l.length) (readL p sw l)[i] = some (n : Int) ∧ 0 ≤ seatI p l[n].stop ∧ l[n].rd1 = true ∧ l[n].rd2 = true := by
  obtain ⟨y, hy, e, hs, h1, h2⟩ := read_fed h hd h0 _ (List.getElem_mem hi)
  obtain ⟨n, hn, e1, e2⟩ := pos_in hd (a := (readL p sw l)[i]) (by rw [← e]; exact List.mem_map_of_mem hy)
  have : y = l[n] := by rw [← itmOf_eq hd hy, ← itmOf_eq hd (List.getElem_mem hn), e, e1]
  subst this
  exact ⟨n, hn, e1, e2, hs, h1, h2⟩

noncomputable def r7_0 : Array Oper := opsAt Try.f7 [0]
theorem r7_0_ok : dstOk 198 r7_0.toList = true ∧ r7_0.toList.all (fun o => noDefer o.op) = true := by decide +kernel
noncomputable def r7_1 : Array Oper := opsAt Try.f7 [1, 0]
theorem r7_1_ok : dstOk 198 r7_1.toList = true ∧ r7_1.toList.all (fun o => noDefer o.op) = true := by decide +kernel
noncomputable def r7_2 : Array Oper := opsAt Try.f7 [1, 1, 0, 0]
theorem r7_2_ok : dstOk 198 r7_2.toList = true ∧ r7_2.toList.all (fun o => noDefer o.op) = true := by decide +kernel
noncomputable def r7_3 : Array Oper := opsAt Try.f7 [1, 1, 0, 1, 0, 0]
theorem r7_3_ok : dstOk 198 r7_3.toList = true ∧ r7_3.toList.all (fun o => noDefer o.op) = true := by decide +kernel
noncomputable def r7_4 : Array Oper := opsAt Try.f7 [1, 1, 1, 0]
theorem r7_4_ok : dstOk 198 r7_4.toList = true ∧ r7_4.toList.all (fun o => noDefer o.op) = true := by decide +kernel
noncomputable def r7_5 : Array Oper := opsAt Try.f7 [1, 1, 1, 1, 0, 0]
theorem r7_5_ok : dstOk 198 r7_5.toList = true ∧ r7_5.toList.all (fun o => noDefer o.op) = true := by decide +kernel
noncomputable def r7_6 : Array Oper := opsAt Try.f7 [1, 1, 1, 1, 0, 1, 0, 0]
theorem r7_6_ok : dstOk 198 r7_6.toList = true ∧ r7_6.toList.all (fun o => noDefer o.op) = true := by decide +kernel
noncomputable def r7_7 : Array Oper := opsAt Try.f7 [1, 1, 1, 1, 1, 0]
theorem r7_7_ok : dstOk 198 r7_7.toList = true ∧ r7_7.toList.all (fun o => noDefer o.op) = true := by decide +kernel
noncomputable def r7_8 : Array Oper := opsAt Try.f7 [1, 1, 1, 1, 1, 1, 0, 0]
theorem r7_8_ok : dstOk 198 r7_8.toList = true ∧ r7_8.toList.all (fun o => noDefer o.op) = true := by decide +kernel
noncomputable def r7_9 : Array Oper := opsAt Try.f7 [1, 1, 1, 1, 1, 1, 0, 1, 0, 0, 0]
theorem r7_9_ok : dstOk 198 r7_9.toList = true ∧ r7_9.toList.all (fun o => noDefer o.op) = true := by decide +kernel
noncomputable def r7_10 : Array Oper := opsAt Try.f7 [1, 1, 1, 1, 1, 1, 0, 1, 0, 0, 1, 1, 0, 0, 0]
theorem r7_10_ok : dstOk 198 r7_10.toList = true ∧ r7_10.toList.all (fun o => noDefer o.op) = true := by decide +kernel
noncomputable def r7_11 : Array Oper := opsAt Try.f7 [1, 1, 1, 1, 1, 1, 0, 1, 0, 0, 1, 1, 0, 0, 1]
theorem r7_11_ok : dstOk 198 r7_11.toList = true ∧ r7_11.toList.all (fun o => noDefer o.op) = true := by decide +kernel
noncomputable def r7_12 : Array Oper := opsAt Try.f7 [1, 1, 1, 1, 1, 1, 0, 1, 0, 0, 1, 1, 1]
theorem r7_12_ok : dstOk 198 r7_12.toList = true ∧ r7_12.toList.all (fun o => noDefer o.op) = true := by decide +kernel
noncomputable def b7_0 : Code := (.seq (.region 9 r7_9 false) (.seq (.cond (.tmp 51) .skip (.exit 0)) (.seq (.block 1 (.seq (.region 10 r7_10 false) (.region 11 r7_11 false))) (.region 12 r7_12 false))))
noncomputable def r7_13 : Array Oper := opsAt Try.f7 [1, 1, 1, 1, 1, 1, 1, 0, 0]
theorem r7_13_ok : dstOk 198 r7_13.toList = true ∧ r7_13.toList.all (fun o => noDefer o.op) = true := by decide +kernel
noncomputable def r7_14 : Array Oper := opsAt Try.f7 [1, 1, 1, 1, 1, 1, 1, 0, 1, 0, 0, 0]
theorem r7_14_ok : dstOk 198 r7_14.toList = true ∧ r7_14.toList.all (fun o => noDefer o.op) = true := by decide +kernel
noncomputable def r7_15 : Array Oper := opsAt Try.f7 [1, 1, 1, 1, 1, 1, 1, 0, 1, 0, 0, 1, 1, 0, 0, 0]
theorem r7_15_ok : dstOk 198 r7_15.toList = true ∧ r7_15.toList.all (fun o => noDefer o.op) = true := by decide +kernel
noncomputable def r7_16 : Array Oper := opsAt Try.f7 [1, 1, 1, 1, 1, 1, 1, 0, 1, 0, 0, 1, 1, 0, 0, 1, 0]
theorem r7_16_ok : dstOk 198 r7_16.toList = true ∧ r7_16.toList.all (fun o => noDefer o.op) = true := by decide +kernel
noncomputable def r7_17 : Array Oper := opsAt Try.f7 [1, 1, 1, 1, 1, 1, 1, 0, 1, 0, 0, 1, 1, 0, 0, 1, 1, 0, 0]
theorem r7_17_ok : dstOk 198 r7_17.toList = true ∧ r7_17.toList.all (fun o => noDefer o.op) = true := by decide +kernel
noncomputable def r7_18 : Array Oper := opsAt Try.f7 [1, 1, 1, 1, 1, 1, 1, 0, 1, 0, 0, 1, 1, 0, 0, 1, 1, 0, 1, 0, 0]
theorem r7_18_ok : dstOk 198 r7_18.toList = true ∧ r7_18.toList.all (fun o => noDefer o.op) = true := by decide +kernel
noncomputable def r7_19 : Array Oper := opsAt Try.f7 [1, 1, 1, 1, 1, 1, 1, 0, 1, 0, 0, 1, 1, 0, 0, 1, 1, 1, 0, 0]
theorem r7_19_ok : dstOk 198 r7_19.toList = true ∧ r7_19.toList.all (fun o => noDefer o.op) = true := by decide +kernel
noncomputable def r7_20 : Array Oper := opsAt Try.f7 [1, 1, 1, 1, 1, 1, 1, 0, 1, 0, 0, 1, 1, 0, 0, 1, 1, 1, 1, 0]
theorem r7_20_ok : dstOk 198 r7_20.toList = true ∧ r7_20.toList.all (fun o => noDefer o.op) = true := by decide +kernel
noncomputable def r7_21 : Array Oper := opsAt Try.f7 [1, 1, 1, 1, 1, 1, 1, 0, 1, 0, 0, 1, 1, 0, 0, 1, 1, 1, 1, 1, 0, 0]
theorem r7_21_ok : dstOk 198 r7_21.toList = true ∧ r7_21.toList.all (fun o => noDefer o.op) = true := by decide +kernel
noncomputable def r7_22 : Array Oper := opsAt Try.f7 [1, 1, 1, 1, 1, 1, 1, 0, 1, 0, 0, 1, 1, 0, 0, 1, 1, 1, 1, 1, 0, 1, 0, 0]
theorem r7_22_ok : dstOk 198 r7_22.toList = true ∧ r7_22.toList.all (fun o => noDefer o.op) = true := by decide +kernel
noncomputable def r7_23 : Array Oper := opsAt Try.f7 [1, 1, 1, 1, 1, 1, 1, 0, 1, 0, 0, 1, 1, 0, 0, 1, 1, 1, 1, 1, 1, 0]
theorem r7_23_ok : dstOk 198 r7_23.toList = true ∧ r7_23.toList.all (fun o => noDefer o.op) = true := by decide +kernel
noncomputable def r7_24 : Array Oper := opsAt Try.f7 [1, 1, 1, 1, 1, 1, 1, 0, 1, 0, 0, 1, 1, 0, 0, 1, 1, 1, 1, 1, 1, 1, 0]
theorem r7_24_ok : dstOk 198 r7_24.toList = true ∧ r7_24.toList.all (fun o => noDefer o.op) = true := by decide +kernel
noncomputable def r7_25 : Array Oper := opsAt Try.f7 [1, 1, 1, 1, 1, 1, 1, 0, 1, 0, 0, 1, 1, 0, 0, 1, 1, 1, 1, 1, 1, 1, 1, 0, 0]
theorem r7_25_ok : dstOk 198 r7_25.toList = true ∧ r7_25.toList.all (fun o => noDefer o.op) = true := by decide +kernel
noncomputable def r7_26 : Array Oper := opsAt Try.f7 [1, 1, 1, 1, 1, 1, 1, 0, 1, 0, 0, 1, 1, 1]
theorem r7_26_ok : dstOk 198 r7_26.toList = true ∧ r7_26.toList.all (fun o => noDefer o.op) = true := by decide +kernel
noncomputable def b7_1 : Code := (.seq (.region 14 r7_14 false) (.seq (.cond (.tmp 64) .skip (.exit 2)) (.seq (.block 3 (.seq (.region 15 r7_15 false) (.seq (.region 16 r7_16 false) (.seq (.seq (.region 17 r7_17 true) (.cond (.tmp 101) (.seq (.region 18 r7_18 false) .ret) .skip)) (.seq (.seq (.region 19 r7_19 false) (.cond (.tmp 103) (.exit 3) .skip)) (.seq (.region 20 r7_20 false) (.seq (.seq (.region 21 r7_21 false) (.cond (.tmp 116) (.seq (.region 22 r7_22 false) .ret) .skip)) (.seq (.region 23 r7_23 true) (.seq (.region 24 r7_24 false) (.cond (.tmp 143) (.seq (.region 25 r7_25 false) .ret) .skip)))))))))) (.region 26 r7_26 false))))
noncomputable def r7_27 : Array Oper := opsAt Try.f7 [1, 1, 1, 1, 1, 1, 1, 1, 0]
theorem r7_27_ok : dstOk 198 r7_27.toList = true ∧ r7_27.toList.all (fun o => noDefer o.op) = true := by decide +kernel
noncomputable def r7_28 : Array Oper := opsAt Try.f7 [1, 1, 1, 1, 1, 1, 1, 1, 1, 0, 0]
theorem r7_28_ok : dstOk 198 r7_28.toList = true ∧ r7_28.toList.all (fun o => noDefer o.op) = true := by decide +kernel
noncomputable def r7_29 : Array Oper := opsAt Try.f7 [1, 1, 1, 1, 1, 1, 1, 1, 1, 0, 1, 0, 0, 0]
theorem r7_29_ok : dstOk 198 r7_29.toList = true ∧ r7_29.toList.all (fun o => noDefer o.op) = true := by decide +kernel
noncomputable def r7_30 : Array Oper := opsAt Try.f7 [1, 1, 1, 1, 1, 1, 1, 1, 1, 0, 1, 0, 0, 1, 1, 0, 0, 0]
theorem r7_30_ok : dstOk 198 r7_30.toList = true ∧ r7_30.toList.all (fun o => noDefer o.op) = true := by decide +kernel
noncomputable def r7_31 : Array Oper := opsAt Try.f7 [1, 1, 1, 1, 1, 1, 1, 1, 1, 0, 1, 0, 0, 1, 1, 0, 0, 1, 0]
theorem r7_31_ok : dstOk 198 r7_31.toList = true ∧ r7_31.toList.all (fun o => noDefer o.op) = true := by decide +kernel
noncomputable def r7_32 : Array Oper := opsAt Try.f7 [1, 1, 1, 1, 1, 1, 1, 1, 1, 0, 1, 0, 0, 1, 1, 0, 0, 1, 1, 0, 0, 0]
theorem r7_32_ok : dstOk 198 r7_32.toList = true ∧ r7_32.toList.all (fun o => noDefer o.op) = true := by decide +kernel
noncomputable def r7_33 : Array Oper := opsAt Try.f7 [1, 1, 1, 1, 1, 1, 1, 1, 1, 0, 1, 0, 0, 1, 1, 0, 0, 1, 1, 0, 0, 1, 1, 0, 0, 0]
theorem r7_33_ok : dstOk 198 r7_33.toList = true ∧ r7_33.toList.all (fun o => noDefer o.op) = true := by decide +kernel
noncomputable def r7_34 : Array Oper := opsAt Try.f7 [1, 1, 1, 1, 1, 1, 1, 1, 1, 0, 1, 0, 0, 1, 1, 0, 0, 1, 1, 0, 0, 1, 1, 0, 0, 1, 0, 0]
theorem r7_34_ok : dstOk 198 r7_34.toList = true ∧ r7_34.toList.all (fun o => noDefer o.op) = true := by decide +kernel
noncomputable def r7_35 : Array Oper := opsAt Try.f7 [1, 1, 1, 1, 1, 1, 1, 1, 1, 0, 1, 0, 0, 1, 1, 0, 0, 1, 1, 0, 0, 1, 1, 0, 0, 1, 0, 1, 0]
theorem r7_35_ok : dstOk 198 r7_35.toList = true ∧ r7_35.toList.all (fun o => noDefer o.op) = true := by decide +kernel
noncomputable def r7_36 : Array Oper := opsAt Try.f7 [1, 1, 1, 1, 1, 1, 1, 1, 1, 0, 1, 0, 0, 1, 1, 0, 0, 1, 1, 0, 0, 1, 1, 0, 0, 1, 0, 1, 1, 0, 0]
theorem r7_36_ok : dstOk 198 r7_36.toList = true ∧ r7_36.toList.all (fun o => noDefer o.op) = true := by decide +kernel
noncomputable def r7_37 : Array Oper := opsAt Try.f7 [1, 1, 1, 1, 1, 1, 1, 1, 1, 0, 1, 0, 0, 1, 1, 0, 0, 1, 1, 0, 0, 1, 1, 0, 0, 1, 1]
theorem r7_37_ok : dstOk 198 r7_37.toList = true ∧ r7_37.toList.all (fun o => noDefer o.op) = true := by decide +kernel
noncomputable def r7_38 : Array Oper := opsAt Try.f7 [1, 1, 1, 1, 1, 1, 1, 1, 1, 0, 1, 0, 0, 1, 1, 0, 0, 1, 1, 0, 0, 1, 1, 1]
theorem r7_38_ok : dstOk 198 r7_38.toList = true ∧ r7_38.toList.all (fun o => noDefer o.op) = true := by decide +kernel
noncomputable def b7_2 : Code := (.seq (.region 32 r7_32 false) (.seq (.cond (.tmp 169) .skip (.exit 6)) (.seq (.block 7 (.seq (.region 33 r7_33 false) (.seq (.seq (.region 34 r7_34 false) (.seq (.region 35 r7_35 false) (.cond (.tmp 185) (.seq (.region 36 r7_36 false) .ret) .skip))) (.region 37 r7_37 false)))) (.region 38 r7_38 false))))
noncomputable def r7_39 : Array Oper := opsAt Try.f7 [1, 1, 1, 1, 1, 1, 1, 1, 1, 0, 1, 0, 0, 1, 1, 1]
theorem r7_39_ok : dstOk 198 r7_39.toList = true ∧ r7_39.toList.all (fun o => noDefer o.op) = true := by decide +kernel
noncomputable def b7_3 : Code := (.seq (.region 29 r7_29 false) (.seq (.cond (.tmp 163) .skip (.exit 4)) (.seq (.block 5 (.seq (.region 30 r7_30 false) (.seq (.region 31 r7_31 false) (.block 6 (.loop b7_2))))) (.region 39 r7_39 false))))
noncomputable def r7_40 : Array Oper := opsAt Try.f7 [1, 1, 1, 1, 1, 1, 1, 1, 1, 1, 0]
theorem r7_40_ok : dstOk 198 r7_40.toList = true ∧ r7_40.toList.all (fun o => noDefer o.op) = true := by decide +kernel
noncomputable def c7 : Code := (.seq (.region 0 r7_0 false) (.seq (.region 1 r7_1 false) (.seq (.seq (.region 2 r7_2 false) (.cond (.tmp 33) (.seq (.region 3 r7_3 false) .ret) .skip)) (.seq (.region 4 r7_4 false) (.seq (.seq (.region 5 r7_5 false) (.cond (.tmp 46) (.seq (.region 6 r7_6 false) .ret) .skip)) (.seq (.region 7 r7_7 false) (.seq (.seq (.region 8 r7_8 false) (.block 0 (.loop b7_0))) (.seq (.seq (.region 13 r7_13 false) (.block 2 (.loop b7_1))) (.seq (.region 27 r7_27 false) (.seq (.seq (.region 28 r7_28 false) (.block 4 (.loop b7_3))) (.seq (.region 40 r7_40 false) .ret)))))))))))
theorem body7 : Try.f7.body = some c7 := by kernel_rfl
theorem order_bad (b : B4) (x : CaseR) (hx : x.ok) (hP : ¬ (planF x).2 = 0) : PureCall Try.prog GL 7 [caseAV b x] (.raw (.bool true)) := by
  refine pure_of_body Try.func7 body7 (Nat.le_of_ble_eq_true rfl) (by simp) (by simp) ?_
  refine w_keep [(0, caseAV b x)] ⟨rfl, trivial⟩ ?_
  unfold c7
  refine awp_seq ?_
  refine w_reg (l := r7_0.toList) rfl r7_0_ok ?_
  refine a_op rfl (o_box (N := 0) rfl (by rfl) rfl rfl) ?_
  refine a_op rfl (o_as rfl) ?_
  refine a_nil ?_
  refine tq_n ?_
  refine awp_seq ?_
  refine w_reg (l := r7_1.toList) rfl r7_1_ok ?_
  refine a_op rfl ((by first | exact o_ldg tg82 tn82 rfl rfl | exact o_ldpg tg82 tn82 rfl rfl rfl rfl)) ?_
  refine a_pure rfl rfl rfl cb34 (built_bad b x hx hP) ?_
  refine a_op rfl (o_mv rfl) ?_
  refine a_op rfl (o_ex rfl rfl) ?_
  refine a_op rfl (o_ex rfl rfl) ?_
  refine a_op rfl (o_ex rfl rfl) ?_
  refine a_op rfl (o_al (N := 1) tz51 rfl rfl rfl) ?_
  refine a_op0 rfl (o_st (N := 3) tn51 rfl rfl rfl rfl rfl) ?_
  refine a_op rfl (o_as rfl) ?_
  refine a_op rfl (o_as rfl) ?_
  refine a_nil ?_
  refine tq_n ?_
  refine awp_seq ?_
  refine awp_seq ?_
  refine w_reg (l := r7_2.toList) rfl r7_2_ok ?_
  refine a_op rfl (o_mv rfl) ?_
  refine a_op rfl (o_ntf rfl) ?_
  refine a_nil ?_
  refine tq_n ?_
  refine w_true rfl ?_
  refine awp_seq ?_
  refine w_reg (l := r7_3.toList) rfl r7_3_ok ?_
  refine a_pure rfl rfl rfl cb32 awake_ok ?_
  refine a_op rfl (o_as rfl) ?_
  refine a_nil ?_
  refine tq_n ?_
  refine awp_ret ?_
  refine tq_r ?_
  refine r_one rfl ⟨rfl, trivial⟩ ?_
  exact rs_pur (by simp) rfl
theorem order_good (b : B4) (x : CaseR) (hx : x.ok) (hP : (planF x).2 = 0) : PureCall Try.prog GL 7 [caseAV b x] (.raw (.bool true)) := by
  refine pure_of_body Try.func7 body7 (Nat.le_of_ble_eq_true rfl) (by simp) (by simp) ?_
  refine w_keep [(0, caseAV b x)] ⟨rfl, trivial⟩ ?_
  unfold c7
  obtain ⟨hmade, hst1, hst2, hrt⟩ := make_made (stops := stopsF x) (caps := capsF x) hP
  have hck : CheckOk (planF x).1 := hmade.ck
  have hd := itemsF_nodup x
  have hid := itemsF_in x
  have hll := itemsF_len x
  have hsx := hx.s
  unfold u8r at hsx
  obtain ⟨p, hp⟩ : ∃ p, p = (planF x).1 := ⟨_, rfl⟩
  obtain ⟨l, hl⟩ : ∃ l, l = itemsF x := ⟨_, rfl⟩
  rw [← hp] at hck
  rw [← hl] at hd hid hll
  obtain ⟨sw, hsw⟩ : ∃ sw : Int, sw = x.sweeps % 9 := ⟨_, rfl⟩
  have hsw0 : 0 ≤ sw ∧ sw ≤ 8 := by omega
  have hcl := rightF_caps hck
  have hsm := hck.m
  have hm5 := all_perm (sw := sw) hck hd hsw0.1
  have hnd5 := hm5.nodup_iff.2 hd
  have hln5 := hm5.length_eq
  have h5l : (all5 p sw l).length = 5 := rfl
  rw [show [readL p sw l, (twoA p sw l).over, (twoA p sw l).rej, (twoB p sw l).over, (twoB p sw l).rej] = (all5 p sw l) from rfl] at hm5 hnd5 hln5
  rw [List.length_map] at hln5
  have hrl : (readL p sw l).length ≤ l.length := by
    have h1 : List.Sublist (readL p sw l) (all5 p sw l).flatten := List.sublist_append_left _ _
    rw [← hln5]; exact h1.length_le
  refine awp_seq ?_
  refine w_reg (l := r7_0.toList) rfl r7_0_ok ?_
  refine a_op rfl (o_box (N := 0) rfl (by rfl) rfl rfl) ?_
  refine a_op rfl (o_as rfl) ?_
  refine a_nil ?_
  refine tq_n ?_
  refine awp_seq ?_
  refine w_reg (l := r7_1.toList) rfl r7_1_ok ?_
  refine a_op rfl ((by first | exact o_ldg tg82 tn82 rfl rfl | exact o_ldpg tg82 tn82 rfl rfl rfl rfl)) ?_
  refine a_pure rfl rfl rfl cb34 (built_good b x hx hP) ?_
  rw [← hp, ← hl]
  refine a_op rfl (o_mv rfl) ?_
  refine a_op rfl (o_ex rfl rfl) ?_
  refine a_op rfl (o_ex rfl rfl) ?_
  refine a_op rfl (o_ex rfl rfl) ?_
  refine a_op rfl (o_al (N := 1) tz51 rfl rfl rfl) ?_
  refine a_op0 rfl (o_st (N := 3) tn51 rfl rfl rfl rfl rfl) ?_
  refine a_op rfl (o_as rfl) ?_
  refine a_op rfl (o_as rfl) ?_
  refine a_nil ?_
  refine tq_n ?_
  refine awp_seq ?_
  refine awp_seq ?_
  refine w_reg (l := r7_2.toList) rfl r7_2_ok ?_
  refine a_op rfl (o_mv rfl) ?_
  refine a_op rfl (o_ntt rfl) ?_
  refine a_nil ?_
  refine tq_n ?_
  refine w_false rfl ?_
  refine awp_skip ?_
  refine tq_n ?_
  refine awp_seq ?_
  refine w_reg (l := r7_4.toList) rfl r7_4_ok ?_
  refine a_op rfl ((by first | exact o_ldg tg51 tn51 rfl rfl | exact o_ldpg tg51 tn51 rfl rfl rfl rfl)) ?_
  refine a_op rfl ((by first | exact o_fa tf82_4 rfl rfl | exact o_fap tf82_4 rfl rfl)) ?_
  refine a_op rfl ((by first | exact o_ld tg5 rfl rfl | exact o_ldp tg5 rfl rfl rfl rfl)) ?_
  refine a_op rfl (o_rem rfl rfl (by omega) (by omega)) ?_
  rw [← hsw]
  refine a_op rfl (o_cv tk5 tk3 rfl (by simp only [klo, khi]; omega)) ?_
  refine a_op rfl (o_mv rfl) ?_
  refine a_pure rfl rfl rfl cb26 (two_okG b4F sw _ hck (by omega) (by omega) (by omega) hd hid) ?_
  refine a_op rfl (o_mv rfl) ?_
  refine a_op rfl (o_ex rfl rfl) ?_
  refine a_op rfl (o_ex rfl rfl) ?_
  refine a_op rfl (o_al (N := 2) tz62 rfl rfl rfl) ?_
  refine a_op0 rfl (o_st (N := 10) tn62 rfl rfl rfl rfl rfl) ?_
  refine a_op rfl (o_as rfl) ?_
  refine a_nil ?_
  refine tq_n ?_
  refine awp_seq ?_
  refine awp_seq ?_
  refine w_reg (l := r7_5.toList) rfl r7_5_ok ?_
  refine a_op rfl (o_mv rfl) ?_
  refine a_op rfl (elD (o_ne rfl rfl) (w := .raw (.bool false)) rfl) ?_
  refine a_nil ?_
  refine tq_n ?_
  refine w_false rfl ?_
  refine awp_skip ?_
  refine tq_n ?_
  refine awp_seq ?_
  refine w_reg (l := r7_7.toList) rfl r7_7_ok ?_
  refine a_opH rfl (o_mm (N := 3) rfl rfl) (H' := [.var [.sl 1 b.b0 (x.vols.map u8AV), .sl 1 b.b1 (x.caps.map u8AV), .sl 1 b.b2 (x.picks.map u8AV), .sl 1 b.b3 (x.unread.map u8AV), .raw (.int .u8 x.sweeps)], .var (planC b4F p), .var [.sl 1 false ((twoA p sw l).rows.map rowAV), rowAV (twoA p sw l).swept, rowAV (twoA p sw l).over, rowAV (twoA p sw l).rej, .sl 3 false ((twoA p sw l).ev.map evAV), .sl 1 false ((twoB p sw l).rows.map rowAV), rowAV (twoB p sw l).swept, rowAV (twoB p sw l).over, rowAV (twoB p sw l).rej, .sl 3 false ((twoB p sw l).ev.map evAV), rowAV (readL p sw l)], .mapo (mpI (posM (l.map (·.id)) 0))]) rfl ?_
  refine a_op rfl (o_as rfl) ?_
  refine a_nil ?_
  refine tq_n ?_
  refine awp_seq ?_
  refine awp_seq ?_
  refine w_reg (l := r7_8.toList) rfl r7_8_ok ?_
  refine a_op rfl (o_mv rfl) ?_
  refine a_op rfl (o_len rfl rfl (by first | exact List.length_map .. | rfl) tl43) ?_
  refine a_op rfl (o_mv rfl) ?_
  refine a_nil ?_
  refine tq_n ?_
  refine awp_block ?_
  refine w_loop (fun i : Nat => i ≤ l.length) (fun i => [(3, .ptr 1 0), (4, .sl 4 false (l.map itemAV)), (6, .ptr 2 0), (8, .mp 3), (48, .sl 4 false (l.map itemAV)), (49, .raw (.int .i64 ((l.length : Nat) : Int))), (50, .raw (.int .i64 ((i : Nat) : Int)))]) (fun i => [.var [.sl 1 b.b0 (x.vols.map u8AV), .sl 1 b.b1 (x.caps.map u8AV), .sl 1 b.b2 (x.picks.map u8AV), .sl 1 b.b3 (x.unread.map u8AV), .raw (.int .u8 x.sweeps)], .var (planC b4F p), .var [.sl 1 false ((twoA p sw l).rows.map rowAV), rowAV (twoA p sw l).swept, rowAV (twoA p sw l).over, rowAV (twoA p sw l).rej, .sl 3 false ((twoA p sw l).ev.map evAV), .sl 1 false ((twoB p sw l).rows.map rowAV), rowAV (twoB p sw l).swept, rowAV (twoB p sw l).over, rowAV (twoB p sw l).rej, .sl 3 false ((twoB p sw l).ev.map evAV), rowAV (readL p sw l)], .mapo (mpI (posM (l.map (·.id)) i))]) (fun i => l.length - i) (0) (by simp) ⟨(by first | exact sub_int rfl (by omega) | rfl), (by first | exact sub_int rfl (by omega) | rfl), (by first | exact sub_int rfl (by omega) | rfl), (by first | exact sub_int rfl (by omega) | rfl), (by first | exact sub_int rfl (by omega) | rfl), (by first | exact sub_int rfl (by omega) | rfl), (by first | exact sub_int rfl (by omega) | rfl), trivial⟩ rfl ?_
  intro i hpi
  unfold b7_0
  refine awp_seq ?_
  refine w_reg (l := r7_9.toList) rfl r7_9_ok ?_
  refine a_if rfl (o_lt rfl rfl) (fun h1 => ?_) (fun h2 => ?_)
  · refine a_nil ?_
    refine tq_n ?_
    refine awp_seq ?_
    refine w_true rfl ?_
    refine awp_skip ?_
    refine tq_n ?_
    refine awp_seq ?_
    refine awp_block ?_
    refine awp_seq ?_
    have hi : i < l.length := by omega
    refine w_reg (l := r7_10.toList) rfl r7_10_ok ?_
    refine a_op rfl (o_mv rfl) ?_
    refine a_op rfl (o_ix te43 tn45 rfl rfl rfl (ixm _ _ _ hi)) ?_
    refine a_op rfl ((by first | exact o_ldg tg45 tn45 rfl rfl | exact o_ldpg tg45 tn45 rfl rfl rfl rfl)) ?_
    refine a_op rfl (o_al (N := 4) tz45 rfl rfl rfl) ?_
    refine a_op rfl (o_as rfl) ?_
    refine a_op0 rfl (o_st (N := 3) tn45 rfl rfl rfl rfl rfl) ?_
    refine a_nil ?_
    refine tq_n ?_
    refine w_reg (l := r7_11.toList) rfl r7_11_ok ?_
    refine a_op rfl (o_mv rfl) ?_
    refine a_op rfl ((by first | exact o_fa tf45_0 rfl rfl | exact o_fap tf45_0 rfl rfl)) ?_
    refine a_op rfl ((by first | exact o_ld tg3 rfl rfl | exact o_ldp tg3 rfl rfl rfl rfl)) ?_
    refine a_op rfl (o_mv rfl) ?_
    refine a_op0 rfl (o_muI rfl rfl rfl rfl rfl) ?_
    refine a_nil ?_
    refine bq_n ?_
    refine tq_n ?_
    refine w_view [(3, .ptr 1 0), (4, .sl 4 false (l.map itemAV)), (6, .ptr 2 0), (8, .mp 3), (48, .sl 4 false (l.map itemAV)), (49, .raw (.int .i64 ((l.length : Nat) : Int))), (50, .raw (.int .i64 ((i : Nat) : Int)))] [.var [.sl 1 b.b0 (x.vols.map u8AV), .sl 1 b.b1 (x.caps.map u8AV), .sl 1 b.b2 (x.picks.map u8AV), .sl 1 b.b3 (x.unread.map u8AV), .raw (.int .u8 x.sweeps)], .var (planC b4F p), .var [.sl 1 false ((twoA p sw l).rows.map rowAV), rowAV (twoA p sw l).swept, rowAV (twoA p sw l).over, rowAV (twoA p sw l).rej, .sl 3 false ((twoA p sw l).ev.map evAV), .sl 1 false ((twoB p sw l).rows.map rowAV), rowAV (twoB p sw l).swept, rowAV (twoB p sw l).over, rowAV (twoB p sw l).rej, .sl 3 false ((twoB p sw l).ev.map evAV), rowAV (readL p sw l)], .mapo (mpI (mput (posM (l.map (·.id)) i) l[i].id i))] 4 rfl (Nat.le_of_ble_eq_true rfl) (Nat.le_of_ble_eq_true rfl) ⟨⟨_, rfl, (by first | exact .mpK (Nat.le_of_ble_eq_true rfl) | exact .sloK (Nat.le_of_ble_eq_true rfl) | exact .ptrK (Nat.le_of_ble_eq_true rfl) | exact rs_pur (by simp) rfl)⟩, ⟨_, rfl, (by first | exact .mpK (Nat.le_of_ble_eq_true rfl) | exact .sloK (Nat.le_of_ble_eq_true rfl) | exact .ptrK (Nat.le_of_ble_eq_true rfl) | exact rs_pur (by simp) rfl)⟩, ⟨_, rfl, (by first | exact .mpK (Nat.le_of_ble_eq_true rfl) | exact .sloK (Nat.le_of_ble_eq_true rfl) | exact .ptrK (Nat.le_of_ble_eq_true rfl) | exact rs_pur (by simp) rfl)⟩, ⟨_, rfl, (by first | exact .mpK (Nat.le_of_ble_eq_true rfl) | exact .sloK (Nat.le_of_ble_eq_true rfl) | exact .ptrK (Nat.le_of_ble_eq_true rfl) | exact rs_pur (by simp) rfl)⟩, ⟨_, rfl, (by first | exact .mpK (Nat.le_of_ble_eq_true rfl) | exact .sloK (Nat.le_of_ble_eq_true rfl) | exact .ptrK (Nat.le_of_ble_eq_true rfl) | exact rs_pur (by simp) rfl)⟩, ⟨_, rfl, (by first | exact .mpK (Nat.le_of_ble_eq_true rfl) | exact .sloK (Nat.le_of_ble_eq_true rfl) | exact .ptrK (Nat.le_of_ble_eq_true rfl) | exact rs_pur (by simp) rfl)⟩, ⟨_, rfl, (by first | exact .mpK (Nat.le_of_ble_eq_true rfl) | exact .sloK (Nat.le_of_ble_eq_true rfl) | exact .ptrK (Nat.le_of_ble_eq_true rfl) | exact rs_pur (by simp) rfl)⟩, trivial⟩ ⟨ors_var ⟨rs_pur (by simp) rfl, rs_pur (by simp) rfl, rs_pur (by simp) rfl, rs_pur (by simp) rfl, rs_pur (by simp) rfl, trivial⟩, ors_var ⟨rs_pur (by simp) rfl, rs_pur (by simp) rfl, rs_pur (by simp) rfl, rs_pur (by simp) rfl, trivial⟩, ors_var ⟨rs_pur (by simp) rfl, rs_pur (by simp) rfl, rs_pur (by simp) rfl, rs_pur (by simp) rfl, rs_pur (by simp) rfl, rs_pur (by simp) rfl, rs_pur (by simp) rfl, rs_pur (by simp) rfl, rs_pur (by simp) rfl, rs_pur (by simp) rfl, rs_pur (by simp) rfl, trivial⟩, ors_mpI _, trivial⟩ ?_
    refine w_reg (l := r7_12.toList) rfl r7_12_ok ?_
    refine a_op rfl (o_add rfl rfl (by simp only [klo, khi]; omega)) ?_
    refine a_op rfl (o_mv rfl) ?_
    refine a_nil ?_
    refine tq_n ?_
    exact ⟨i + 1, ⟨by omega, by omega⟩, ⟨(by first | exact sub_int rfl (by omega) | rfl), (by first | exact sub_int rfl (by omega) | rfl), (by first | exact sub_int rfl (by omega) | rfl), (by first | exact sub_int rfl (by omega) | rfl), (by first | exact sub_int rfl (by omega) | rfl), (by first | exact sub_int rfl (by omega) | rfl), (by first | exact sub_int rfl (by omega) | rfl), trivial⟩, by rw [posM, getDi (by simpa using hi), List.getElem_map]⟩
  refine a_nil ?_
  refine tq_n ?_
  refine awp_seq ?_
  refine w_false rfl ?_
  refine awp_exit ?_
  refine tq_x ?_
  refine tq_x ?_
  refine bq_hit ?_
  refine tq_n ?_
  refine awp_seq ?_
  refine awp_seq ?_
  refine w_heq (H1 := [.var [.sl 1 b.b0 (x.vols.map u8AV), .sl 1 b.b1 (x.caps.map u8AV), .sl 1 b.b2 (x.picks.map u8AV), .sl 1 b.b3 (x.unread.map u8AV), .raw (.int .u8 x.sweeps)], .var (planC b4F p), .var [.sl 1 false ((twoA p sw l).rows.map rowAV), rowAV (twoA p sw l).swept, rowAV (twoA p sw l).over, rowAV (twoA p sw l).rej, .sl 3 false ((twoA p sw l).ev.map evAV), .sl 1 false ((twoB p sw l).rows.map rowAV), rowAV (twoB p sw l).swept, rowAV (twoB p sw l).over, rowAV (twoB p sw l).rej, .sl 3 false ((twoB p sw l).ev.map evAV), rowAV (readL p sw l)], .mapo (mpI (posM (l.map (·.id)) l.length))]) (by rw [show i = l.length by omega]) ?_
  refine w_keep [(3, .ptr 1 0), (4, .sl 4 false (l.map itemAV)), (6, .ptr 2 0), (8, .mp 3)] ⟨rfl, rfl, rfl, rfl, trivial⟩ ?_
  refine w_reg (l := r7_13.toList) rfl r7_13_ok ?_
  refine a_op rfl ((by first | exact o_fa tf62_2 rfl rfl | exact o_fap tf62_2 rfl rfl)) ?_
  refine a_op rfl ((by first | exact o_ld tg34 rfl rfl | exact o_ldp tg34 rfl rfl rfl rfl)) ?_
  refine a_op rfl (o_len rfl rfl (by first | exact List.length_map .. | rfl) tl34) ?_
  refine a_op rfl (o_mv rfl) ?_
  refine a_nil ?_
  refine tq_n ?_
  refine awp_block ?_
  refine w_loop (fun i : Nat => i ≤ (readL p sw l).length) (fun i => [(3, .ptr 1 0), (4, .sl 4 false (l.map itemAV)), (6, .ptr 2 0), (8, .mp 3), (61, rowAV (readL p sw l)), (62, .raw (.int .i64 (((readL p sw l).length : Nat) : Int))), (63, .raw (.int .i64 ((i : Nat) : Int)))]) (fun i => [.var [.sl 1 b.b0 (x.vols.map u8AV), .sl 1 b.b1 (x.caps.map u8AV), .sl 1 b.b2 (x.picks.map u8AV), .sl 1 b.b3 (x.unread.map u8AV), .raw (.int .u8 x.sweeps)], .var (planC b4F p), .var [.sl 1 false ((twoA p sw l).rows.map rowAV), rowAV (twoA p sw l).swept, rowAV (twoA p sw l).over, rowAV (twoA p sw l).rej, .sl 3 false ((twoA p sw l).ev.map evAV), .sl 1 false ((twoB p sw l).rows.map rowAV), rowAV (twoB p sw l).swept, rowAV (twoB p sw l).over, rowAV (twoB p sw l).rej, .sl 3 false ((twoB p sw l).ev.map evAV), rowAV (readL p sw l)], .mapo (mpI (posM (l.map (·.id)) l.length))]) (fun i => (readL p sw l).length - i) (0) (by simp) ⟨(by first | exact sub_int rfl (by omega) | rfl), (by first | exact sub_int rfl (by omega) | rfl), (by first | exact sub_int rfl (by omega) | rfl), (by first | exact sub_int rfl (by omega) | rfl), (by first | exact sub_int rfl (by omega) | rfl), (by first | exact sub_int rfl (by omega) | rfl), (by first | exact sub_int rfl (by omega) | rfl), trivial⟩ rfl ?_
  intro i hpi
  unfold b7_1
  refine awp_seq ?_
  refine w_reg (l := r7_14.toList) rfl r7_14_ok ?_
  refine a_if rfl (o_lt rfl rfl) (fun h3 => ?_) (fun h4 => ?_)
  · refine a_nil ?_
    refine tq_n ?_
    refine awp_seq ?_
    refine w_true rfl ?_
    refine awp_skip ?_
    refine tq_n ?_
    refine awp_seq ?_
    refine awp_block ?_
    refine awp_seq ?_
    have hi : i < (readL p sw l).length := by omega
    obtain ⟨n, hn, en, hmg, hs0, hr1, hr2⟩ := pos_read hck hd hsw0.1 hi
    refine w_reg (l := r7_15.toList) rfl r7_15_ok ?_
    refine a_op rfl (o_mv rfl) ?_
    refine a_op rfl (o_ix te34 tn3 rfl rfl rfl (ixm _ _ _ hi)) ?_
    refine a_op rfl ((by first | exact o_ld tg3 rfl rfl | exact o_ldp tg3 rfl rfl rfl rfl)) ?_
    refine a_op rfl (o_as rfl) ?_
    refine a_op rfl (o_as rfl) ?_
    refine a_nil ?_
    refine tq_n ?_
    refine awp_seq ?_
    refine w_reg (l := r7_16.toList) rfl r7_16_ok ?_
    refine a_op rfl (o_mv rfl) ?_
    refine a_op rfl (o_mv rfl) ?_
    refine a_op rfl (o_lkI1 rfl rfl rfl hmg) ?_
    refine a_op rfl (o_mv rfl) ?_
    refine a_op rfl (o_ex rfl rfl) ?_
    refine a_op rfl (o_ex rfl rfl) ?_
    refine a_op rfl (o_as rfl) ?_
    refine a_op rfl (o_as rfl) ?_
    refine a_nil ?_
    refine tq_n ?_
    refine awp_seq ?_
    refine awp_seq ?_
    refine awp_draw ⟨[[], [0], [0, 1], [0, 1, 2], [0, 1, 2], [0, 1, 2, 3, 4], [0, 1, 2, 3, 4, 5], [0, 1, 2, 3, 4, 5, 6], [0, 1, 2, 3, 4, 5, 6, 7], [0, 1, 2, 3, 4, 5, 6, 7, 8], [0, 1, 2, 3, 4, 5, 6, 7, 8, 9], [0, 1, 2, 3, 4, 5, 6, 7, 8, 9, 10], [0, 1, 2, 3, 4, 5, 6, 7, 8, 9, 10], [0, 1, 2, 3, 4, 5, 6, 7, 8, 9, 10, 11, 12], [0, 1, 2, 3, 4, 5, 6, 7, 8, 9, 10, 11, 12, 13], [0, 1, 2, 3, 4, 5, 6, 7, 8, 9, 10, 11, 12, 13, 14], [0, 1, 2, 3, 4, 5, 6, 7, 8, 9, 10, 11, 12, 13, 14, 15], [0, 1, 2, 3, 4, 5, 6, 7, 8, 9, 10, 11, 12, 13, 14, 15, 16], [0, 1, 2, 3, 4, 5, 6, 7, 8, 9, 10, 11, 12, 13, 14, 15, 16, 17], [0, 1, 2, 3, 4, 5, 6, 7, 8, 9, 10, 11, 12, 13, 14, 15, 16, 17, 18], [0, 1, 2, 3, 4, 5, 6, 7, 8, 9, 10, 11, 12, 13, 14, 15, 16, 17, 18], [0, 1, 2, 3, 4, 5, 6, 7, 8, 9, 10, 11, 12, 13, 14, 15, 16, 17, 18], [0, 1, 2, 3, 4, 5, 6, 7, 8, 9, 10, 11, 12, 13, 14, 15, 16, 17, 18, 20, 21], [0, 1, 2, 3, 4, 5, 6, 7, 8, 9, 10, 11, 12, 13, 14, 15, 16, 17, 18, 20, 21, 22], [0, 1, 2, 3, 4, 5, 6, 7, 8, 9, 10, 11, 12, 13, 14, 15, 16, 17, 18, 20, 21, 22, 23], [0, 1, 2, 3, 4, 5, 6, 7, 8, 9, 10, 11, 12, 13, 14, 15, 16, 17, 18, 19, 20, 21, 22, 23, 24], [0, 1, 2, 3, 4, 5, 6, 7, 8, 9, 10, 11, 12, 13, 14, 15, 16, 17, 18, 19, 20, 21, 22, 23, 24, 25], [0, 1, 2, 3, 4, 5, 6, 7, 8, 9, 10, 11, 12, 13, 14, 15, 16, 17, 18, 19, 20, 21, 22, 23, 24, 25, 26]], [[14], [74], [75], [4, 76], [13, 76], [76, 77, 78], [76, 79], [76, 80], [76, 81], [76, 82], [83], [4, 84], [13, 84], [84, 85, 86], [84, 87], [84, 88], [84, 89], [84, 90], [91], [3, 92], [4, 92], [13, 92], [92, 94, 95], [92, 96], [92, 97], [92, 93, 98], [92, 99], [92, 100]], [[], [], [], [], [], [], [], [], [], [], [], [], [], [], [], [], [], [], [], [1], [], [], [], [], [], [], [], []], [none, none, none, none, none, none, none, none, none, none, none, none, none, none, none, none, none, none, none, none, none, none, none, none, none, none, none, none]⟩ mo r7_17_ok (by decide +kernel) (l := r7_17.toList) rfl ?_
    refine d_op rfl rfl rfl (fun _ => o_mv rfl) ?_
    refine d_op rfl rfl rfl (fun _ => o_ntt rfl) ?_
    refine d_op rfl rfl rfl (fun _ => o_mv rfl) ?_
    refine d_op rfl rfl rfl (fun _ => o_mv rfl) ?_
    refine d_op rfl rfl rfl (fun _ => o_mv rfl) ?_
    refine d_op rfl rfl rfl (fun _ => o_ix te43 tn45 rfl rfl rfl (ixm _ _ _ hn)) ?_
    refine d_op rfl rfl rfl (fun _ => (by first | exact o_fa tf45_2 rfl rfl | exact o_fap tf45_2 rfl rfl)) ?_
    refine d_ifb rfl rfl rfl (fun _ => (by first | exact o_ld tg4 rfl rfl | exact o_ldp tg4 rfl rfl rfl rfl)) (fun h5 => ?_) (fun h6 => ?_)
    · refine d_op rfl rfl rfl (fun _ => o_ntt rfl) ?_
      refine d_op rfl rfl rfl (fun _ => o_pkf rfl rfl) ?_
      refine d_op rfl rfl rfl (fun _ => o_mv rfl) ?_
      refine d_op rfl rfl rfl (fun _ => o_mv rfl) ?_
      refine d_op rfl rfl rfl (fun _ => o_mv rfl) ?_
      refine d_op rfl rfl rfl (fun _ => o_ix te43 tn45 rfl rfl rfl (ixm _ _ _ hn)) ?_
      refine d_op rfl rfl rfl (fun _ => (by first | exact o_fa tf45_3 rfl rfl | exact o_fap tf45_3 rfl rfl)) ?_
      refine d_ifb rfl rfl rfl (fun _ => (by first | exact o_ld tg4 rfl rfl | exact o_ldp tg4 rfl rfl rfl rfl)) (fun h7 => ?_) (fun h8 => ?_)
      · refine d_op rfl rfl rfl (fun _ => o_ntt rfl) ?_
        refine d_op rfl rfl rfl (fun _ => o_pkf rfl rfl) ?_
        refine d_op rfl rfl rfl (fun _ => o_mv rfl) ?_
        refine d_op rfl rfl rfl (fun _ => (by first | exact o_ldg tg51 tn51 rfl rfl | exact o_ldpg tg51 tn51 rfl rfl rfl rfl)) ?_
        refine d_op rfl rfl rfl (fun _ => o_mv rfl) ?_
        refine d_op rfl rfl rfl (fun _ => o_mv rfl) ?_
        refine d_op rfl rfl rfl (fun _ => o_ix te43 tn45 rfl rfl rfl (ixm _ _ _ hn)) ?_
        refine d_op rfl rfl rfl (fun _ => (by first | exact o_fa tf45_1 rfl rfl | exact o_fap tf45_1 rfl rfl)) ?_
        refine d_op rfl rfl rfl (fun _ => (by first | exact o_ld tg3 rfl rfl | exact o_ldp tg3 rfl rfl rfl rfl)) ?_
        refine d_pure rfl rfl rfl rfl cb35 (seat_ok b4F p (by omega) _) ?_
        refine d_if rfl rfl rfl (fun _ => o_lt rfl rfl) (fun h9 => ?_) (fun h10 => ?_)
        · omega
        refine d_op rfl rfl rfl (fun _ => o_pkf rfl rfl) ?_
        refine d_nil ?_
        refine tq_n ?_
        refine w_false rfl ?_
        refine awp_skip ?_
        refine tq_n ?_
        refine awp_seq ?_
        refine awp_seq ?_
        refine w_reg (l := r7_19.toList) rfl r7_19_ok ?_
        refine a_op rfl (o_mv rfl) ?_
        refine a_if rfl (o_eq rfl rfl) (fun h11 => ?_) (fun h12 => ?_)
        · refine a_nil ?_
          refine tq_n ?_
          refine w_true rfl ?_
          refine awp_exit ?_
          refine tq_x ?_
          refine bq_hit ?_
          refine tq_n ?_
          refine w_reg (l := r7_26.toList) rfl r7_26_ok ?_
          refine a_op rfl (o_add rfl rfl (by simp only [klo, khi]; omega)) ?_
          refine a_op rfl (o_mv rfl) ?_
          refine a_nil ?_
          refine tq_n ?_
          exact ⟨i + 1, ⟨by omega, by omega⟩, ⟨(by first | exact sub_int rfl (by omega) | rfl), (by first | exact sub_int rfl (by omega) | rfl), (by first | exact sub_int rfl (by omega) | rfl), (by first | exact sub_int rfl (by omega) | rfl), (by first | exact sub_int rfl (by omega) | rfl), (by first | exact sub_int rfl (by omega) | rfl), (by first | exact sub_int rfl (by omega) | rfl), trivial⟩, rfl⟩
        refine a_nil ?_
        refine tq_n ?_
        refine w_false rfl ?_
        refine awp_skip ?_
        refine tq_n ?_
        refine awp_seq ?_
        obtain ⟨k, hk⟩ : ∃ k : Nat, i = k + 1 := ⟨i - 1, by omega⟩
        have hk' : ((i : Nat) : Int) - 1 = ((k : Nat) : Int) := by omega
        have hkl : k < (readL p sw l).length := by omega
        obtain ⟨m, hmn, em, hmg2, hs2, _, _⟩ := pos_read hck hd hsw0.1 hkl
        obtain ⟨hle, hlt⟩ := read_two (sw := sw) hck hd hsw0.1 (i := k) (j := i) (by omega) hi hmn hn em en
        refine w_reg (l := r7_20.toList) rfl r7_20_ok ?_
        refine a_op rfl (o_mv rfl) ?_
        refine a_op rfl ((by first | exact o_fa tf62_2 rfl rfl | exact o_fap tf62_2 rfl rfl)) ?_
        refine a_op rfl ((by first | exact o_ld tg34 rfl rfl | exact o_ldp tg34 rfl rfl rfl rfl)) ?_
        refine a_op rfl (o_mv rfl) ?_
        refine a_op rfl (o_sub rfl rfl (by simp only [klo, khi]; omega)) ?_
        refine a_op rfl (o_ix te34 tn3 rfl rfl hk' (ixm _ _ _ hkl)) ?_
        refine a_op rfl ((by first | exact o_ld tg3 rfl rfl | exact o_ldp tg3 rfl rfl rfl rfl)) ?_
        refine a_op rfl (o_lkI1 rfl rfl rfl hmg2) ?_
        refine a_op rfl (o_mv rfl) ?_
        refine a_op rfl (o_ex rfl rfl) ?_
        refine a_op rfl (o_ex rfl rfl) ?_
        refine a_op rfl (o_as rfl) ?_
        refine a_op rfl (o_as rfl) ?_
        refine a_nil ?_
        refine tq_n ?_
        refine awp_seq ?_
        refine awp_seq ?_
        refine w_reg (l := r7_21.toList) rfl r7_21_ok ?_
        refine a_op rfl (o_mv rfl) ?_
        refine a_op rfl (o_ntt rfl) ?_
        refine a_nil ?_
        refine tq_n ?_
        refine w_false rfl ?_
        refine awp_skip ?_
        refine tq_n ?_
        refine awp_seq ?_
        refine awp_draw ⟨[[], [], [], [1, 2], [1, 2, 3], [1, 2, 3, 4], [0, 1, 2, 3, 4, 5], [], [], [], [8, 9], [8, 9, 10], [8, 9, 10, 11], [0, 1, 2, 3, 4, 5, 6, 7, 8, 9, 10, 11, 12], [0, 1, 2, 3, 4, 5, 6, 7, 8, 9, 10, 11, 12, 13], [0, 1, 2, 3, 4, 5, 6, 7, 8, 9, 10, 11, 12, 13, 14]], [[3], [4], [15], [118, 119], [120], [121], [117, 122], [3], [4], [13], [125, 126], [127], [128], [124, 129], [123], [130]], [[1], [], [], [], [], [], [], [1], [], [], [], [], [], [], [], []], [none, none, none, none, none, none, none, none, none, none, none, none, none, none, none, none]⟩ mo r7_23_ok (by decide +kernel) (l := r7_23.toList) rfl ?_
        refine d_op rfl rfl rfl (fun _ => (by first | exact o_ldg tg51 tn51 rfl rfl | exact o_ldpg tg51 tn51 rfl rfl rfl rfl)) ?_
        refine d_op rfl rfl rfl (fun _ => o_mv rfl) ?_
        refine d_op rfl rfl rfl (fun _ => o_mv rfl) ?_
        refine d_op rfl rfl rfl (fun _ => o_ix te43 tn45 rfl rfl rfl (ixm _ _ _ hmn)) ?_
        refine d_op rfl rfl rfl (fun _ => (by first | exact o_fa tf45_1 rfl rfl | exact o_fap tf45_1 rfl rfl)) ?_
        refine d_op rfl rfl rfl (fun _ => (by first | exact o_ld tg3 rfl rfl | exact o_ldp tg3 rfl rfl rfl rfl)) ?_
        refine d_pure rfl rfl rfl rfl cb35 (seat_ok b4F p (by omega) _) ?_
        refine d_op rfl rfl rfl (fun _ => (by first | exact o_ldg tg51 tn51 rfl rfl | exact o_ldpg tg51 tn51 rfl rfl rfl rfl)) ?_
        refine d_op rfl rfl rfl (fun _ => o_mv rfl) ?_
        refine d_op rfl rfl rfl (fun _ => o_mv rfl) ?_
        refine d_op rfl rfl rfl (fun _ => o_ix te43 tn45 rfl rfl rfl (ixm _ _ _ hn)) ?_
        refine d_op rfl rfl rfl (fun _ => (by first | exact o_fa tf45_1 rfl rfl | exact o_fap tf45_1 rfl rfl)) ?_
        refine d_op rfl rfl rfl (fun _ => (by first | exact o_ld tg3 rfl rfl | exact o_ldp tg3 rfl rfl rfl rfl)) ?_
        refine d_pure rfl rfl rfl rfl cb35 (seat_ok b4F p (by omega) _) ?_
        refine d_op rfl rfl rfl (fun _ => o_as rfl) ?_
        refine d_op rfl rfl rfl (fun _ => o_as rfl) ?_
        refine d_nil ?_
        refine tq_n ?_
        refine awp_seq ?_
        refine w_reg (l := r7_24.toList) rfl r7_24_ok ?_
        refine a_op rfl (o_mv rfl) ?_
        refine a_op rfl (o_mv rfl) ?_
        refine a_if rfl (o_gt rfl rfl) (fun h13 => ?_) (fun h14 => ?_)
        · omega
        refine a_op rfl (o_mv rfl) ?_
        refine a_op rfl (o_mv rfl) ?_
        refine a_op rfl (o_mv rfl) ?_
        refine a_if rfl (o_eq rfl rfl) (fun h15 => ?_) (fun h16 => ?_)
        · refine a_op rfl (o_mv rfl) ?_
          refine a_op rfl (o_mv rfl) ?_
          refine a_op rfl (o_mv rfl) ?_
          refine a_if rfl (o_ge rfl rfl) (fun h17 => ?_) (fun h18 => ?_)
          · omega
          refine a_op rfl (o_pkt rfl rfl) ?_
          refine a_op rfl (o_pkf rfl rfl) ?_
          refine a_nil ?_
          refine tq_n ?_
          refine w_false rfl ?_
          refine awp_skip ?_
          refine bq_n ?_
          refine tq_n ?_
          refine w_reg (l := r7_26.toList) rfl r7_26_ok ?_
          refine a_op rfl (o_add rfl rfl (by simp only [klo, khi]; omega)) ?_
          refine a_op rfl (o_mv rfl) ?_
          refine a_nil ?_
          refine tq_n ?_
          exact ⟨i + 1, ⟨by omega, by omega⟩, ⟨(by first | exact sub_int rfl (by omega) | rfl), (by first | exact sub_int rfl (by omega) | rfl), (by first | exact sub_int rfl (by omega) | rfl), (by first | exact sub_int rfl (by omega) | rfl), (by first | exact sub_int rfl (by omega) | rfl), (by first | exact sub_int rfl (by omega) | rfl), (by first | exact sub_int rfl (by omega) | rfl), trivial⟩, rfl⟩
        refine a_op rfl (o_mv rfl) ?_
        refine a_off rfl ?_
        refine a_off rfl ?_
        refine a_off rfl ?_
        refine a_op rfl (o_pkf rfl rfl) ?_
        refine a_op rfl (o_pkf rfl rfl) ?_
        refine a_nil ?_
        refine tq_n ?_
        refine w_false rfl ?_
        refine awp_skip ?_
        refine bq_n ?_
        refine tq_n ?_
        refine w_reg (l := r7_26.toList) rfl r7_26_ok ?_
        refine a_op rfl (o_add rfl rfl (by simp only [klo, khi]; omega)) ?_
        refine a_op rfl (o_mv rfl) ?_
        refine a_nil ?_
        refine tq_n ?_
        exact ⟨i + 1, ⟨by omega, by omega⟩, ⟨(by first | exact sub_int rfl (by omega) | rfl), (by first | exact sub_int rfl (by omega) | rfl), (by first | exact sub_int rfl (by omega) | rfl), (by first | exact sub_int rfl (by omega) | rfl), (by first | exact sub_int rfl (by omega) | rfl), (by first | exact sub_int rfl (by omega) | rfl), (by first | exact sub_int rfl (by omega) | rfl), trivial⟩, rfl⟩
      exact absurd (hr2.symm.trans h8) (by decide)
    exact absurd (hr1.symm.trans h6) (by decide)
  refine a_nil ?_
  refine tq_n ?_
  refine awp_seq ?_
  refine w_false rfl ?_
  refine awp_exit ?_
  refine tq_x ?_
  refine tq_x ?_
  refine bq_hit ?_
  refine tq_n ?_
  refine awp_seq ?_
  refine w_reg (l := r7_27.toList) rfl r7_27_ok ?_
  refine a_opH rfl (o_mm (N := 4) rfl rfl) (H' := [.var [.sl 1 b.b0 (x.vols.map u8AV), .sl 1 b.b1 (x.caps.map u8AV), .sl 1 b.b2 (x.picks.map u8AV), .sl 1 b.b3 (x.unread.map u8AV), .raw (.int .u8 x.sweeps)], .var (planC b4F p), .var [.sl 1 false ((twoA p sw l).rows.map rowAV), rowAV (twoA p sw l).swept, rowAV (twoA p sw l).over, rowAV (twoA p sw l).rej, .sl 3 false ((twoA p sw l).ev.map evAV), .sl 1 false ((twoB p sw l).rows.map rowAV), rowAV (twoB p sw l).swept, rowAV (twoB p sw l).over, rowAV (twoB p sw l).rej, .sl 3 false ((twoB p sw l).ev.map evAV), rowAV (readL p sw l)], .mapo (mpI (posM (l.map (·.id)) l.length)), .mapo (mpI (ones ([])))]) rfl ?_
  refine a_op rfl (o_as rfl) ?_
  refine a_nil ?_
  refine tq_n ?_
  refine awp_seq ?_
  refine awp_seq ?_
  refine w_reg (l := r7_28.toList) rfl r7_28_ok ?_
  refine a_op rfl ((by first | exact o_fa tf62_2 rfl rfl | exact o_fap tf62_2 rfl rfl)) ?_
  refine a_op rfl ((by first | exact o_ld tg34 rfl rfl | exact o_ldp tg34 rfl rfl rfl rfl)) ?_
  refine a_op rfl ((by first | exact o_fa tf62_0 rfl rfl | exact o_fap tf62_0 rfl rfl)) ?_
  refine a_op rfl ((by first | exact o_fa tf60_2 rfl rfl | exact o_fap tf60_2 rfl rfl)) ?_
  refine a_op rfl ((by first | exact o_ld tg34 rfl rfl | exact o_ldp tg34 rfl rfl rfl rfl)) ?_
  refine a_op rfl ((by first | exact o_fa tf62_0 rfl rfl | exact o_fap tf62_0 rfl rfl)) ?_
  refine a_op rfl ((by first | exact o_fa tf60_3 rfl rfl | exact o_fap tf60_3 rfl rfl)) ?_
  refine a_op rfl ((by first | exact o_ld tg34 rfl rfl | exact o_ldp tg34 rfl rfl rfl rfl)) ?_
  refine a_op rfl ((by first | exact o_fa tf62_1 rfl rfl | exact o_fap tf62_1 rfl rfl)) ?_
  refine a_op rfl ((by first | exact o_fa tf60_2 rfl rfl | exact o_fap tf60_2 rfl rfl)) ?_
  refine a_op rfl ((by first | exact o_ld tg34 rfl rfl | exact o_ldp tg34 rfl rfl rfl rfl)) ?_
  refine a_op rfl ((by first | exact o_fa tf62_1 rfl rfl | exact o_fap tf62_1 rfl rfl)) ?_
  refine a_op rfl ((by first | exact o_fa tf60_3 rfl rfl | exact o_fap tf60_3 rfl rfl)) ?_
  refine a_op rfl ((by first | exact o_ld tg34 rfl rfl | exact o_ldp tg34 rfl rfl rfl rfl)) ?_
  refine a_op rfl (o_bs tE57 (by decide) rfl rfl rfl) ?_
  refine a_op rfl (o_len rfl rfl (by first | exact List.length_map .. | rfl) tl57) ?_
  refine a_op rfl (o_mv rfl) ?_
  refine a_nil ?_
  refine tq_n ?_
  refine awp_block ?_
  refine w_loop (fun i : Nat => i ≤ 5) (fun i => [(4, .sl 4 false (l.map itemAV)), (8, .mp 3), (19, .mp 4), (160, .sl 1 true ((all5 p sw l).map rowAV)), (161, .raw (.int .i64 ((5 : Nat) : Int))), (162, .raw (.int .i64 ((i : Nat) : Int)))]) (fun i => [.var [.sl 1 b.b0 (x.vols.map u8AV), .sl 1 b.b1 (x.caps.map u8AV), .sl 1 b.b2 (x.picks.map u8AV), .sl 1 b.b3 (x.unread.map u8AV), .raw (.int .u8 x.sweeps)], .var (planC b4F p), .var [.sl 1 false ((twoA p sw l).rows.map rowAV), rowAV (twoA p sw l).swept, rowAV (twoA p sw l).over, rowAV (twoA p sw l).rej, .sl 3 false ((twoA p sw l).ev.map evAV), .sl 1 false ((twoB p sw l).rows.map rowAV), rowAV (twoB p sw l).swept, rowAV (twoB p sw l).over, rowAV (twoB p sw l).rej, .sl 3 false ((twoB p sw l).ev.map evAV), rowAV (readL p sw l)], .mapo (mpI (posM (l.map (·.id)) l.length)), .mapo (mpI (ones (((all5 p sw l).take i).flatten)))]) (fun i => 5 - i) (0) (by simp) ⟨(by first | exact sub_int rfl (by omega) | rfl), (by first | exact sub_int rfl (by omega) | rfl), (by first | exact sub_int rfl (by omega) | rfl), (by first | exact sub_int rfl (by omega) | rfl), (by first | exact sub_int rfl (by omega) | rfl), (by first | exact sub_int rfl (by omega) | rfl), trivial⟩ (by simp) ?_
  intro i hp
  unfold b7_3
  refine awp_seq ?_
  refine w_reg (l := r7_29.toList) rfl r7_29_ok ?_
  refine a_if rfl (o_lt rfl rfl) (fun h19 => ?_) (fun h20 => ?_)
  · refine a_nil ?_
    refine tq_n ?_
    refine awp_seq ?_
    refine w_true rfl ?_
    refine awp_skip ?_
    refine tq_n ?_
    refine awp_seq ?_
    refine awp_block ?_
    refine awp_seq ?_
    have hi : i < (all5 p sw l).length := by omega
    have hbi : (all5 p sw l)[i].length ≤ l.length := by rw [← hln5]; exact (List.sublist_flatten_of_mem (List.getElem_mem hi)).length_le
    refine w_reg (l := r7_30.toList) rfl r7_30_ok ?_
    refine a_op rfl (o_ix te57 tn34 rfl rfl rfl (ixm _ _ _ hi)) ?_
    refine a_op rfl ((by first | exact o_ld tg34 rfl rfl | exact o_ldp tg34 rfl rfl rfl rfl)) ?_
    refine a_op rfl (o_as rfl) ?_
    refine a_nil ?_
    refine tq_n ?_
    refine awp_seq ?_
    refine w_reg (l := r7_31.toList) rfl r7_31_ok ?_
    refine a_op rfl (o_mv rfl) ?_
    refine a_op rfl (o_len rfl rfl (by first | exact List.length_map .. | rfl) tl34) ?_
    refine a_op rfl (o_mv rfl) ?_
    refine a_nil ?_
    refine tq_n ?_
    refine awp_block ?_
    refine w_loop (fun j : Nat => j ≤ (all5 p sw l)[i].length) (fun j => [(4, .sl 4 false (l.map itemAV)), (8, .mp 3), (19, .mp 4), (160, .sl 1 true ((all5 p sw l).map rowAV)), (161, .raw (.int .i64 ((5 : Nat) : Int))), (162, .raw (.int .i64 ((i : Nat) : Int))), (166, rowAV (all5 p sw l)[i]), (167, .raw (.int .i64 (((all5 p sw l)[i].length : Nat) : Int))), (168, .raw (.int .i64 ((j : Nat) : Int)))]) (fun j => [.var [.sl 1 b.b0 (x.vols.map u8AV), .sl 1 b.b1 (x.caps.map u8AV), .sl 1 b.b2 (x.picks.map u8AV), .sl 1 b.b3 (x.unread.map u8AV), .raw (.int .u8 x.sweeps)], .var (planC b4F p), .var [.sl 1 false ((twoA p sw l).rows.map rowAV), rowAV (twoA p sw l).swept, rowAV (twoA p sw l).over, rowAV (twoA p sw l).rej, .sl 3 false ((twoA p sw l).ev.map evAV), .sl 1 false ((twoB p sw l).rows.map rowAV), rowAV (twoB p sw l).swept, rowAV (twoB p sw l).over, rowAV (twoB p sw l).rej, .sl 3 false ((twoB p sw l).ev.map evAV), rowAV (readL p sw l)], .mapo (mpI (posM (l.map (·.id)) l.length)), .mapo (mpI (ones (((all5 p sw l).take i).flatten ++ (all5 p sw l)[i].take j)))]) (fun j => (all5 p sw l)[i].length - j) (0) (by simp) ⟨(by first | exact sub_int rfl (by omega) | rfl), (by first | exact sub_int rfl (by omega) | rfl), (by first | exact sub_int rfl (by omega) | rfl), (by first | exact sub_int rfl (by omega) | rfl), (by first | exact sub_int rfl (by omega) | rfl), (by first | exact sub_int rfl (by omega) | rfl), (by first | exact sub_int rfl (by omega) | rfl), (by first | exact sub_int rfl (by omega) | rfl), (by first | exact sub_int rfl (by omega) | rfl), trivial⟩ (by simp) ?_
    intro j hq
    unfold b7_2
    refine awp_seq ?_
    refine w_reg (l := r7_32.toList) rfl r7_32_ok ?_
    refine a_if rfl (o_lt rfl rfl) (fun h21 => ?_) (fun h22 => ?_)
    · refine a_nil ?_
      refine tq_n ?_
      refine awp_seq ?_
      refine w_true rfl ?_
      refine awp_skip ?_
      refine tq_n ?_
      refine awp_seq ?_
      refine awp_block ?_
      refine awp_seq ?_
      have hj : j < (all5 p sw l)[i].length := by omega
      have hnot := nodup_at hnd5 hi hj
      have hg : (mget (ones (((all5 p sw l).take i).flatten ++ (all5 p sw l)[i].take j)) (all5 p sw l)[i][j]).getD 0 = 0 := by rw [ones_get, if_neg hnot]; rfl
      obtain ⟨n, hn, _, hmg⟩ := pos_in hd (a := (all5 p sw l)[i][j]) (hm5.mem_iff.1 (List.mem_flatten.2 ⟨_, List.getElem_mem hi, List.getElem_mem hj⟩))
      refine w_reg (l := r7_33.toList) rfl r7_33_ok ?_
      refine a_op rfl (o_ix te34 tn3 rfl rfl rfl (ixm _ _ _ hj)) ?_
      refine a_op rfl ((by first | exact o_ld tg3 rfl rfl | exact o_ldp tg3 rfl rfl rfl rfl)) ?_
      refine a_op rfl (o_as rfl) ?_
      refine a_nil ?_
      refine tq_n ?_
      refine awp_seq ?_
      refine awp_seq ?_
      refine w_reg (l := r7_34.toList) rfl r7_34_ok ?_
      refine a_op rfl (o_mv rfl) ?_
      refine a_op rfl (o_mv rfl) ?_
      refine a_op rfl (o_lkI1 rfl rfl rfl hmg) ?_
      refine a_op rfl (o_mv rfl) ?_
      refine a_op rfl (o_ex rfl rfl) ?_
      refine a_op rfl (o_ex rfl rfl) ?_
      refine a_op rfl (o_as rfl) ?_
      refine a_op rfl (o_as rfl) ?_
      refine a_nil ?_
      refine tq_n ?_
      refine awp_seq ?_
      refine w_reg (l := r7_35.toList) rfl r7_35_ok ?_
      refine a_op rfl (o_mv rfl) ?_
      refine a_op rfl (o_ntt rfl) ?_
      refine a_op rfl (o_mv rfl) ?_
      refine a_op rfl (o_mv rfl) ?_
      refine a_op rfl (o_mv rfl) ?_
      refine a_op rfl (o_lkI0 rfl rfl rfl) ?_
      rw [hg]
      refine a_op rfl (elD (o_gt rfl rfl) (w := .raw (.bool false)) rfl) ?_
      refine a_op rfl (o_pkf rfl rfl) ?_
      refine a_nil ?_
      refine tq_n ?_
      refine w_false rfl ?_
      refine awp_skip ?_
      refine tq_n ?_
      refine w_reg (l := r7_37.toList) rfl r7_37_ok ?_
      refine a_op rfl (o_mv rfl) ?_
      refine a_op rfl (o_mv rfl) ?_
      refine a_op0 rfl (o_muI rfl rfl rfl rfl rfl) ?_
      refine a_nil ?_
      refine bq_n ?_
      refine tq_n ?_
      refine w_reg (l := r7_38.toList) rfl r7_38_ok ?_
      refine a_op rfl (o_add rfl rfl (by simp only [klo, khi]; omega)) ?_
      refine a_op rfl (o_mv rfl) ?_
      refine a_nil ?_
      refine tq_n ?_
      exact ⟨j + 1, ⟨by omega, by omega⟩, ⟨(by first | exact sub_int rfl (by omega) | rfl), (by first | exact sub_int rfl (by omega) | rfl), (by first | exact sub_int rfl (by omega) | rfl), (by first | exact sub_int rfl (by omega) | rfl), (by first | exact sub_int rfl (by omega) | rfl), (by first | exact sub_int rfl (by omega) | rfl), (by first | exact sub_int rfl (by omega) | rfl), (by first | exact sub_int rfl (by omega) | rfl), (by first | exact sub_int rfl (by omega) | rfl), trivial⟩, by rw [List.take_succ_eq_append_getElem hj, ← List.append_assoc, ones_snoc]⟩
    refine a_nil ?_
    refine tq_n ?_
    refine awp_seq ?_
    refine w_false rfl ?_
    refine awp_exit ?_
    refine tq_x ?_
    refine tq_x ?_
    refine bq_hit ?_
    refine bq_n ?_
    refine tq_n ?_
    refine w_reg (l := r7_39.toList) rfl r7_39_ok ?_
    refine a_op rfl (o_add rfl rfl (by simp only [klo, khi]; omega)) ?_
    refine a_op rfl (o_mv rfl) ?_
    refine a_nil ?_
    refine tq_n ?_
    exact ⟨i + 1, ⟨by omega, by omega⟩, ⟨(by first | exact sub_int rfl (by omega) | rfl), (by first | exact sub_int rfl (by omega) | rfl), (by first | exact sub_int rfl (by omega) | rfl), (by first | exact sub_int rfl (by omega) | rfl), (by first | exact sub_int rfl (by omega) | rfl), (by first | exact sub_int rfl (by omega) | rfl), trivial⟩, by rw [show j = (all5 p sw l)[i].length by omega, List.take_length, List.take_succ_eq_append_getElem hi, List.flatten_append]; simp⟩
  refine a_nil ?_
  refine tq_n ?_
  refine awp_seq ?_
  refine w_false rfl ?_
  refine awp_exit ?_
  refine tq_x ?_
  refine tq_x ?_
  refine bq_hit ?_
  refine tq_n ?_
  refine awp_seq ?_
  have e5 : (all5 p sw l).take i = (all5 p sw l) := List.take_of_length_le (by omega)
  refine w_reg (l := r7_40.toList) rfl r7_40_ok ?_
  refine a_op rfl (o_mv rfl) ?_
  refine a_op rfl (o_len (q := l.length) (j := l.length) rfl (by simp [lenAV, mpI, mpE, e5, ones_len hnd5, hln5]) rfl tl38) ?_
  refine a_op rfl (o_mv rfl) ?_
  refine a_op rfl (o_len rfl rfl (by first | exact List.length_map .. | rfl) tl43) ?_
  refine a_op rfl (elD (o_eq rfl rfl) (w := .raw (.bool true)) (by simp)) ?_
  refine a_op rfl (o_mv rfl) ?_
  refine a_pure rfl rfl rfl cb32 awake_ok ?_
  refine a_op rfl (o_pkt rfl rfl) ?_
  refine a_op rfl (o_as rfl) ?_
  refine a_nil ?_
  refine tq_n ?_
  refine awp_ret ?_
  refine r_one rfl ⟨rfl, trivial⟩ ?_
  exact rs_pur (by simp) rfl
theorem order_ok (b : B4) (x : CaseR) (hx : x.ok) : PureCall Try.prog GL 7 [caseAV b x] (.raw (.bool true)) := by
  by_cases hP : (planF x).2 = 0
  · exact order_good b x hx hP
  · exact order_bad b x hx hP
end Go.Ab.S
