/- What functions of this program compute, and the laws of what they compute, under the bounds on lengths that each contract states. -/
import Derived.Test.YtghoaglolhdoeaaDoorD18
namespace Go.Ab.D
open Go Go.Ab Go.Proofs
theorem good_rules (H : Heap) (l : List RuleR) : (l.map ruleAV).all (AV.goodPart H) = true := List.all_eq_true.2 (by intro y hy; obtain ⟨a, _, rfl⟩ := List.mem_map.1 hy; rfl)
theorem good_ints (H : Heap) (l : List Int) : (l.map intAV).all (AV.goodPart H) = true := List.all_eq_true.2 (by intro y hy; obtain ⟨a, _, rfl⟩ := List.mem_map.1 hy; rfl)
theorem openW_ok {R : List RuleR} (hl1 : R.length ≤ 4611686018427387904) (hx1 : ∀ x ∈ R, x.ok) {hol : List Int} (hl2 : hol.length ≤ 4611686018427387904) (d : Int) (hw : wrF hol d = 2) :
    PureCall Tryd.prog GL 18 [refAV nilS nilS nilS false (sixL 6), .sl 5 false (R.map ruleAV), .sl 1 false (hol.map intAV), .raw (.int .i64 d)] (.tup [.raw (.slice none 0 0), .raw (.int .i64 2)]) := by
  have := Open_ok nilS nilS nilS cel_nilS cel_nilS cel_nilS false (sixL 6) (by simp [sixL_len]) false R hl1 hx1 false hol hl2 d (by simp [sixL_len]) (by decide +kernel)
  rw [hw, opAV, if_pos (by omega)] at this
  exact this
theorem six_pw : ((sixL 6).map (·.id)).Pairwise (· < ·) := by decide +kernel
theorem elD {F : Frm} {H : Heap} {P : Program} {op : Op} {v w : AV} {H1 : Heap} (h : OpOk P op F H v H1) (e : v = w) : OpOk P op F H w H1 := e ▸ h

noncomputable def r10_0 : Array Oper := opsAt Tryd.f10 [0]
theorem r10_0_ok : dstOk 165 r10_0.toList = true ∧ r10_0.toList.all (fun o => noDefer o.op) = true := by decide +kernel
noncomputable def r10_1 : Array Oper := opsAt Tryd.f10 [1, 0]
theorem r10_1_ok : dstOk 165 r10_1.toList = true ∧ r10_1.toList.all (fun o => noDefer o.op) = true := by decide +kernel
noncomputable def r10_2 : Array Oper := opsAt Tryd.f10 [1, 1, 0]
theorem r10_2_ok : dstOk 165 r10_2.toList = true ∧ r10_2.toList.all (fun o => noDefer o.op) = true := by decide +kernel
noncomputable def r10_3 : Array Oper := opsAt Tryd.f10 [1, 1, 1, 0]
theorem r10_3_ok : dstOk 165 r10_3.toList = true ∧ r10_3.toList.all (fun o => noDefer o.op) = true := by decide +kernel
noncomputable def r10_4 : Array Oper := opsAt Tryd.f10 [1, 1, 1, 1, 0, 0]
theorem r10_4_ok : dstOk 165 r10_4.toList = true ∧ r10_4.toList.all (fun o => noDefer o.op) = true := by decide +kernel
noncomputable def r10_5 : Array Oper := opsAt Tryd.f10 [1, 1, 1, 1, 0, 1, 0, 0]
theorem r10_5_ok : dstOk 165 r10_5.toList = true ∧ r10_5.toList.all (fun o => noDefer o.op) = true := by decide +kernel
noncomputable def r10_6 : Array Oper := opsAt Tryd.f10 [1, 1, 1, 1, 1, 0]
theorem r10_6_ok : dstOk 165 r10_6.toList = true ∧ r10_6.toList.all (fun o => noDefer o.op) = true := by decide +kernel
noncomputable def r10_7 : Array Oper := opsAt Tryd.f10 [1, 1, 1, 1, 1, 1, 0, 0]
theorem r10_7_ok : dstOk 165 r10_7.toList = true ∧ r10_7.toList.all (fun o => noDefer o.op) = true := by decide +kernel
noncomputable def r10_8 : Array Oper := opsAt Tryd.f10 [1, 1, 1, 1, 1, 1, 0, 1, 0, 0]
theorem r10_8_ok : dstOk 165 r10_8.toList = true ∧ r10_8.toList.all (fun o => noDefer o.op) = true := by decide +kernel
noncomputable def r10_9 : Array Oper := opsAt Tryd.f10 [1, 1, 1, 1, 1, 1, 1, 0]
theorem r10_9_ok : dstOk 165 r10_9.toList = true ∧ r10_9.toList.all (fun o => noDefer o.op) = true := by decide +kernel
noncomputable def r10_10 : Array Oper := opsAt Tryd.f10 [1, 1, 1, 1, 1, 1, 1, 1, 0]
theorem r10_10_ok : dstOk 165 r10_10.toList = true ∧ r10_10.toList.all (fun o => noDefer o.op) = true := by decide +kernel
noncomputable def r10_11 : Array Oper := opsAt Tryd.f10 [1, 1, 1, 1, 1, 1, 1, 1, 1, 0]
theorem r10_11_ok : dstOk 165 r10_11.toList = true ∧ r10_11.toList.all (fun o => noDefer o.op) = true := by decide +kernel
noncomputable def r10_12 : Array Oper := opsAt Tryd.f10 [1, 1, 1, 1, 1, 1, 1, 1, 1, 1, 0]
theorem r10_12_ok : dstOk 165 r10_12.toList = true ∧ r10_12.toList.all (fun o => noDefer o.op) = true := by decide +kernel
noncomputable def r10_13 : Array Oper := opsAt Tryd.f10 [1, 1, 1, 1, 1, 1, 1, 1, 1, 1, 1, 0]
theorem r10_13_ok : dstOk 165 r10_13.toList = true ∧ r10_13.toList.all (fun o => noDefer o.op) = true := by decide +kernel
noncomputable def r10_14 : Array Oper := opsAt Tryd.f10 [1, 1, 1, 1, 1, 1, 1, 1, 1, 1, 1, 1, 0]
theorem r10_14_ok : dstOk 165 r10_14.toList = true ∧ r10_14.toList.all (fun o => noDefer o.op) = true := by decide +kernel
noncomputable def r10_15 : Array Oper := opsAt Tryd.f10 [1, 1, 1, 1, 1, 1, 1, 1, 1, 1, 1, 1, 1, 0]
theorem r10_15_ok : dstOk 165 r10_15.toList = true ∧ r10_15.toList.all (fun o => noDefer o.op) = true := by decide +kernel
noncomputable def r10_16 : Array Oper := opsAt Tryd.f10 [1, 1, 1, 1, 1, 1, 1, 1, 1, 1, 1, 1, 1, 1, 0]
theorem r10_16_ok : dstOk 165 r10_16.toList = true ∧ r10_16.toList.all (fun o => noDefer o.op) = true := by decide +kernel
noncomputable def r10_17 : Array Oper := opsAt Tryd.f10 [1, 1, 1, 1, 1, 1, 1, 1, 1, 1, 1, 1, 1, 1, 1, 0]
theorem r10_17_ok : dstOk 165 r10_17.toList = true ∧ r10_17.toList.all (fun o => noDefer o.op) = true := by decide +kernel
noncomputable def c10 : Code := (.seq (.region 0 r10_0 false) (.seq (.region 1 r10_1 false) (.seq (.region 2 r10_2 false) (.seq (.region 3 r10_3 true) (.seq (.seq (.region 4 r10_4 false) (.cond (.tmp 67) (.seq (.region 5 r10_5 false) .ret) .skip)) (.seq (.region 6 r10_6 true) (.seq (.seq (.region 7 r10_7 false) (.cond (.tmp 79) (.seq (.region 8 r10_8 false) .ret) .skip)) (.seq (.region 9 r10_9 false) (.seq (.region 10 r10_10 false) (.seq (.region 11 r10_11 false) (.seq (.region 12 r10_12 false) (.seq (.region 13 r10_13 false) (.seq (.region 14 r10_14 false) (.seq (.region 15 r10_15 false) (.seq (.region 16 r10_16 false) (.seq (.region 17 r10_17 false) .ret))))))))))))))))
theorem body10 : Tryd.f10.body = some c10 := by kernel_rfl
set_option maxHeartbeats 4000000 in
theorem wrong10_ok (b0 : Bool) (l : List NoteR) (hl0 : l.length ≤ 9223372036854775807) (hx : ∀ x ∈ l, x.ok) (b1 : Bool) (fl : List Int) (hl1 : fl.length ≤ 9223372036854775807) (hfl : ∀ x ∈ fl, u8r x) (what : Int) (hwh : 0 ≤ what ∧ what ≤ 255) : PureCall Tryd.prog GL 10 [.sl 4 b0 (l.map noteAV), .sl 1 b1 (fl.map u8AV), .raw (.int .u8 what)] (.raw (.bool true)) := by
  refine pure_of_body Tryd.func10 body10 (Nat.le_of_ble_eq_true rfl) (by simp) (by simp) ?_
  refine w_keep [(0, .sl 4 b0 (l.map noteAV)), (1, .sl 1 b1 (fl.map u8AV)), (2, .raw (.int .u8 what))] ⟨rfl, rfl, rfl, trivial⟩ ?_
  unfold c10
  have hR := rulesF_len l; have hRx := rulesF_ok hx; have hHO := offF_len fl; have h6 := sixL_len 6
  have hb : (what % 8).toNat < badL.length := by simp [badL]; omega
  have hbn : what % 8 = (((what % 8).toNat : Nat) : Int) := by omega
  have hbm : (badL[(what % 8).toNat]'hb) ∈ badL := List.getElem_mem hb
  have hva := wrong_valid hx hbm
  have hv1 : (validF (sixL 6) ((rulesF l) ++ [(badL[(what % 8).toNat]'hb), zR])).1 = ((rulesF l).length : Int) := by rw [hva]
  have hv2 : (validF (sixL 6) ((rulesF l) ++ [(badL[(what % 8).toNat]'hb), zR])).2 = 130 := by rw [hva]
  have hm1 : (validF (sixL 6) (manyR 2001)).1 = 0 := by rw [many_valid _ (by rw [manyR_len]; decide)]
  have hm2 : (validF (sixL 6) (manyR 2001)).2 = 5 := by rw [many_valid _ (by rw [manyR_len]; decide)]
  have hw1 := twice_wr fl 730485
  have hw2 := neg_wr fl
  have hw3 := late_wr fl
  have hw4 := twice_wr fl 0
  have hok2 : ∀ y ∈ (rulesF l) ++ [(badL[(what % 8).toNat]'hb), zR], y.ok := by
    intro y hy; rcases List.mem_append.1 hy with hy | hy
    · exact hRx y hy
    · simp only [List.mem_cons, List.not_mem_nil, or_false] at hy
      rcases hy with rfl | rfl
      · exact bad_ok _ hbm
      · exact zR_ok
  refine awp_seq ?_
  refine w_reg (l := r10_0.toList) rfl r10_0_ok ?_
  refine a_op rfl (o_as rfl) ?_
  refine a_nil ?_
  refine tq_n ?_
  refine awp_seq ?_
  refine w_reg (l := r10_1.toList) rfl r10_1_ok ?_
  refine a_pure rfl rfl rfl cb11 (six_ok) ?_
  refine a_op rfl (o_mv rfl) ?_
  refine a_pure rfl rfl rfl cb12 (rules_ok _ _ (by omega) hx) ?_
  refine a_op rfl (o_mv rfl) ?_
  refine a_pure rfl rfl rfl cb13 (off_ok _ _ (by omega) hfl) ?_
  refine a_op rfl (o_al (N := 0) tz30 rfl rfl rfl) ?_
  refine a_op0 rfl (o_st (N := 3) tn30 rfl rfl (by first | exact good_slo rfl | rfl | (simp [AV.goodPart, AV.good, AV.isCell, fresh, nilS, Value.oneCell']; done)) rfl rfl) ?_
  refine a_op rfl (o_as rfl) ?_
  refine a_op rfl (o_as rfl) ?_
  refine a_nil ?_
  refine tq_n ?_
  refine awp_seq ?_
  refine w_reg (l := r10_2.toList) rfl r10_2_ok ?_
  refine a_op rfl (o_bd tz37 rfl tp37 rfl rfl) ?_
  refine a_op rfl (o_bd tz37 rfl tp37 rfl rfl) ?_
  refine a_op rfl (o_bd tz37 rfl tp37 rfl rfl) ?_
  refine a_op rfl (o_bd tz37 rfl tp37 rfl rfl) ?_
  refine a_op rfl (o_bd tz37 rfl tp37 rfl rfl) ?_
  refine a_op rfl (o_bd tz37 rfl tp37 rfl rfl) ?_
  refine a_op rfl (o_bd tz37 rfl tp37 rfl rfl) ?_
  refine a_op rfl (o_bd tz37 rfl tp37 rfl rfl) ?_
  refine a_op rfl (o_bs tE32 (by decide) rfl rfl rfl) ?_
  refine a_op rfl (o_as rfl) ?_
  refine a_nil ?_
  refine tq_n ?_
  refine awp_seq ?_
  refine w_keep [(2, .raw (.int .u8 what)), (7, .ptr 0 0), (8, .sl 5 false ((rulesF l).map ruleAV)), (9, .sl 1 false ((offF fl).map intAV)), (10, .sl 5 true (badL.map ruleAV))] ⟨rfl, rfl, rfl, rfl, rfl, trivial⟩ ?_
  refine w_ph 5 (by decide) rfl ?_
  refine awp_draw ⟨[[], [], [], [1, 2], [], [], [5], [4, 5, 6], [4, 5, 6, 7], [], [4, 5, 6, 7, 8, 9], [1, 2, 3, 4, 5, 6, 7, 8, 9, 10], [0, 1, 2, 3, 4, 5, 6, 7, 8, 9, 10, 11], [0, 1, 2, 3, 4, 5, 6, 7, 8, 9, 10, 11, 12], [0, 1, 2, 3, 4, 5, 6, 7, 8, 9, 10, 11, 12, 13], [0, 1, 2, 3, 4, 5, 6, 7, 8, 9, 10, 11, 12, 13], [0, 1, 2, 3, 4, 5, 6, 7, 8, 9, 10, 11, 12, 13, 14], [0, 1, 2, 3, 4, 5, 6, 7, 8, 9, 10, 11, 12, 13, 14, 15, 16]], [[7], [], [8], [46, 47], [10], [2], [50], [49, 51], [52], [], [53, 54], [48, 55], [45, 56], [57], [44], [44], [58], [59]], [[0], [1], [], [1], [], [], [], [], [], [], [], [1], [1], [], [], [], [], []], [none, some 1, none, some 1, none, none, none, none, none, none, none, some 1, none, none, none, none, none, none]⟩ mo r10_3_ok (by decide +kernel) (l := r10_3.toList) rfl ?_
  refine d_op rfl rfl rfl (fun _ => (by first | exact o_ldg tg30 tn30 rfl rfl | exact o_ldpg tg30 tn30 rfl rfl rfl rfl)) ?_
  refine d_w rfl rfl rfl (fun _ => o_bsD tE32 (by decide) rfl rfl rfl rfl) rfl rfl rfl ?_
  refine d_op rfl rfl rfl (fun _ => o_mv rfl) ?_
  refine d_w rfl rfl rfl (fun _ => o_apD tE32 rfl rfl rfl rfl rfl (good_rules _ _) (by simp; omega) (by simp; omega) rfl rfl rfl) rfl rfl rfl ?_
  refine d_op rfl rfl rfl (fun _ => o_mv rfl) ?_
  refine d_op rfl rfl rfl (fun _ => o_mv rfl) ?_
  refine d_op rfl rfl rfl (fun _ => o_rem rfl rfl (by omega) (by omega)) ?_
  refine d_op rfl rfl rfl (fun _ => o_ix te32 tn37 rfl rfl hbn (ixm _ _ _ hb)) ?_
  refine d_op rfl rfl rfl (fun _ => (by first | exact o_ldg tg37 tn37 rfl rfl | exact o_ldpg tg37 tn37 rfl rfl rfl rfl)) ?_
  refine d_op rfl rfl rfl (fun _ => o_bd tz37 rfl tp37 rfl rfl) ?_
  refine d_op rfl rfl rfl (fun _ => o_bs tE32 (by decide) rfl rfl rfl) ?_
  refine d_w rfl rfl rfl (fun _ => o_apD tE32 rfl rfl (by simp) rfl rfl rfl (by simp; omega) (by simp; omega) rfl rfl rfl) rfl rfl rfl ?_
  refine d_lend (vs' := [refAV nilS nilS nilS false ((sixL 6)), .sl 5 false (((rulesF l) ++ [(badL[(what % 8).toNat]'hb), zR]).map ruleAV)]) rfl rfl rfl rfl rfl cb26 (Valid_ok _ _ _ cel_nilS cel_nilS cel_nilS _ _ (by omega) _ _ (by simp; omega) (hok2)) (fun _ => ⟨rs_pur (by simp [refAV, nilS]) rfl, rs_slo id rfl (by simp) (pmr _) (by simp; exact ⟨rfl, rfl⟩), trivial⟩) (by simp) ?_
  refine d_op rfl rfl rfl (fun _ => o_mv rfl) ?_
  refine d_op rfl rfl rfl (fun _ => o_ex rfl rfl) ?_
  refine d_op rfl rfl rfl (fun _ => o_ex rfl rfl) ?_
  refine d_op rfl rfl rfl (fun _ => o_as rfl) ?_
  refine d_op rfl rfl rfl (fun _ => o_as rfl) ?_
  refine d_nil ?_
  refine tq_n ?_
  refine awp_seq ?_
  refine awp_seq ?_
  refine w_reg (l := r10_4.toList) rfl r10_4_ok ?_
  refine a_op rfl (o_mv rfl) ?_
  refine a_op rfl (o_mv rfl) ?_
  refine a_op rfl (o_len rfl rfl (by first | exact List.length_map .. | rfl) tl32) ?_
  refine a_if rfl (o_ne rfl rfl) (fun h1 => ?_) (fun h2 => ?_)
  · omega
  refine a_op rfl (o_mv rfl) ?_
  refine a_op rfl (o_mv rfl) ?_
  refine a_if rfl (o_ne rfl rfl) (fun h3 => ?_) (fun h4 => ?_)
  · omega
  refine a_op rfl (o_pkf rfl rfl) ?_
  refine a_nil ?_
  refine tq_n ?_
  refine w_false rfl ?_
  refine awp_skip ?_
  refine tq_n ?_
  refine awp_seq ?_
  refine w_ph 5 (by decide) rfl ?_
  refine awp_draw ⟨[[], [], [0, 1], [0, 1, 2], [0, 1, 2, 3], [0, 1, 2, 3], [0, 1, 2, 3, 4], [0, 1, 2, 3, 4, 5, 6]], [[7], [], [69, 70], [71], [68], [68], [72], [73]], [[0], [2], [2], [], [], [], [], []], [none, some 2, none, none, none, none, none, none]⟩ mo r10_6_ok (by decide +kernel) (l := r10_6.toList) rfl ?_
  refine d_op rfl rfl rfl (fun _ => (by first | exact o_ldg tg30 tn30 rfl rfl | exact o_ldpg tg30 tn30 rfl rfl rfl rfl)) ?_
  refine d_w rfl rfl rfl (fun _ => o_msD tE32 rfl rfl (by decide) (by decide) (by decide) (by decide) rfl) rfl rfl rfl ?_
  refine d_lend (vs' := [refAV nilS nilS nilS false ((sixL 6)), .sl 5 false ((manyR 2001).map ruleAV)]) rfl rfl rfl rfl rfl cb26 (Valid_ok _ _ _ cel_nilS cel_nilS cel_nilS _ _ (by omega) _ _ (by rw [manyR_len]; decide) (manyR_ok _)) (fun _ => ⟨rs_pur (by simp [refAV, nilS]) rfl, rs_slo id rfl (List.length_replicate.symm) (pmr _) (manyR_map 2001), trivial⟩) (by simp) ?_
  refine d_op rfl rfl rfl (fun _ => o_mv rfl) ?_
  refine d_op rfl rfl rfl (fun _ => o_ex rfl rfl) ?_
  refine d_op rfl rfl rfl (fun _ => o_ex rfl rfl) ?_
  refine d_op rfl rfl rfl (fun _ => o_as rfl) ?_
  refine d_op rfl rfl rfl (fun _ => o_as rfl) ?_
  refine d_nil ?_
  refine tq_n ?_
  refine awp_seq ?_
  refine awp_seq ?_
  refine w_reg (l := r10_7.toList) rfl r10_7_ok ?_
  refine a_op rfl (o_mv rfl) ?_
  refine a_if rfl (o_ne rfl rfl) (fun h5 => ?_) (fun h6 => ?_)
  · omega
  refine a_op rfl (o_mv rfl) ?_
  refine a_op rfl (o_mv rfl) ?_
  refine a_if rfl (o_ne rfl rfl) (fun h7 => ?_) (fun h8 => ?_)
  · omega
  refine a_op rfl (o_pkf rfl rfl) ?_
  refine a_nil ?_
  refine tq_n ?_
  refine w_false rfl ?_
  refine awp_skip ?_
  refine tq_n ?_
  refine awp_seq ?_
  refine w_reg (l := r10_9.toList) rfl r10_9_ok ?_
  refine a_op rfl (o_bso tE34 (by decide) rfl rfl rfl rfl rfl) ?_
  refine a_op rfl (o_mv rfl) ?_
  refine a_op rfl (o_ap tE34 rfl rfl rfl rfl rfl (good_ints _ _) (by simp; omega) (by simp; omega) rfl rfl rfl rfl) ?_
  refine a_op rfl (o_bs tE34 (by decide) rfl rfl rfl) ?_
  refine a_op rfl (o_ap tE34 rfl rfl (by simp) rfl rfl rfl (by simp; omega) (by simp; omega) rfl rfl rfl rfl) ?_
  refine a_op rfl (o_as rfl) ?_
  refine a_nil ?_
  refine tq_n ?_
  refine awp_seq ?_
  refine w_reg (l := r10_10.toList) rfl r10_10_ok ?_
  refine a_op rfl ((by first | exact o_ldg tg30 tn30 rfl rfl | exact o_ldpg tg30 tn30 rfl rfl rfl rfl)) ?_
  refine a_op rfl (o_mv rfl) ?_
  refine a_op rfl (o_mv rfl) ?_
  refine a_lend (vs' := [refAV nilS nilS nilS false ((sixL 6)), .sl 5 false ((rulesF l).map ruleAV), .sl 1 false (((offF fl ++ [3000, 3000]) : List Int).map intAV), .raw (.int .i64 1), .raw (.int .i64 730485)]) rfl rfl rfl cb31 (Status_ok _ _ _ cel_nilS cel_nilS cel_nilS _ _ (by omega) _ _ (by omega) hRx _ _ (by simp; omega) _ _) ⟨rs_pur (by simp [refAV, nilS]) rfl, rs_pur (by simp) rfl, rs_slo id rfl (by simp) ((pur_ints _).2 trivial) (by simp [intAV]), rs_pur (by simp) rfl, rs_pur (by simp) rfl, trivial⟩ (by simp) ?_
  refine a_op rfl (o_mv rfl) ?_
  refine a_op rfl (o_ex rfl rfl) ?_
  refine a_op rfl (o_ex rfl rfl) ?_
  refine a_op rfl (o_as rfl) ?_
  refine a_op rfl (o_as rfl) ?_
  refine a_nil ?_
  refine tq_n ?_
  refine awp_seq ?_
  refine w_reg (l := r10_11.toList) rfl r10_11_ok ?_
  refine a_op rfl ((by first | exact o_ldg tg30 tn30 rfl rfl | exact o_ldpg tg30 tn30 rfl rfl rfl rfl)) ?_
  refine a_op rfl (o_mv rfl) ?_
  refine a_op rfl (o_mv rfl) ?_
  refine a_pure rfl rfl rfl cb31 (Status_ok _ _ _ cel_nilS cel_nilS cel_nilS _ _ (by omega) _ _ (by omega) hRx _ _ (by omega) _ _) ?_
  refine a_op rfl (o_mv rfl) ?_
  refine a_op rfl (o_ex rfl rfl) ?_
  refine a_op rfl (o_ex rfl rfl) ?_
  refine a_op rfl (o_as rfl) ?_
  refine a_op rfl (o_as rfl) ?_
  refine a_nil ?_
  refine tq_n ?_
  refine awp_seq ?_
  refine w_reg (l := r10_12.toList) rfl r10_12_ok ?_
  refine a_op rfl ((by first | exact o_ldg tg30 tn30 rfl rfl | exact o_ldpg tg30 tn30 rfl rfl rfl rfl)) ?_
  refine a_op rfl (o_mv rfl) ?_
  refine a_op rfl (o_mv rfl) ?_
  refine a_pure rfl rfl rfl cb31 (Status_ok _ _ _ cel_nilS cel_nilS cel_nilS _ _ (by omega) _ _ (by omega) hRx _ _ (by omega) _ _) ?_
  refine a_op rfl (o_mv rfl) ?_
  refine a_op rfl (o_ex rfl rfl) ?_
  refine a_op rfl (o_ex rfl rfl) ?_
  refine a_op rfl (o_as rfl) ?_
  refine a_op rfl (o_as rfl) ?_
  refine a_nil ?_
  refine tq_n ?_
  refine awp_seq ?_
  refine w_reg (l := r10_13.toList) rfl r10_13_ok ?_
  refine a_op rfl ((by first | exact o_ldg tg30 tn30 rfl rfl | exact o_ldpg tg30 tn30 rfl rfl rfl rfl)) ?_
  refine a_op rfl (o_mv rfl) ?_
  refine a_op rfl (o_mv rfl) ?_
  refine a_lend (vs' := [refAV nilS nilS nilS false ((sixL 6)), .sl 5 false ((rulesF l).map ruleAV), .sl 1 false (((offF fl ++ [3000, 3000]) : List Int).map intAV), .raw (.int .i64 1), .raw (.int .i64 730485)]) rfl rfl rfl cb17 (Next_ok _ _ _ cel_nilS cel_nilS cel_nilS _ _ (by omega) _ _ (by omega) hRx _ _ (by simp; omega) _ _) ⟨rs_pur (by simp [refAV, nilS]) rfl, rs_pur (by simp) rfl, rs_slo id rfl (by simp) ((pur_ints _).2 trivial) (by simp [intAV]), rs_pur (by simp) rfl, rs_pur (by simp) rfl, trivial⟩ (by simp) ?_
  refine a_op rfl (o_mv rfl) ?_
  refine a_op rfl (o_ex rfl rfl) ?_
  refine a_op rfl (o_ex rfl rfl) ?_
  refine a_op rfl (o_ex rfl rfl) ?_
  refine a_op rfl (o_as rfl) ?_
  refine a_op rfl (o_as rfl) ?_
  refine a_op rfl (o_as rfl) ?_
  refine a_nil ?_
  refine tq_n ?_
  refine awp_seq ?_
  refine w_reg (l := r10_14.toList) rfl r10_14_ok ?_
  refine a_op rfl ((by first | exact o_ldg tg30 tn30 rfl rfl | exact o_ldpg tg30 tn30 rfl rfl rfl rfl)) ?_
  refine a_op rfl (o_mv rfl) ?_
  refine a_op rfl (o_mv rfl) ?_
  refine a_pure rfl rfl rfl cb17 (Next_ok _ _ _ cel_nilS cel_nilS cel_nilS _ _ (by omega) _ _ (by omega) hRx _ _ (by omega) _ _) ?_
  refine a_op rfl (o_mv rfl) ?_
  refine a_op rfl (o_ex rfl rfl) ?_
  refine a_op rfl (o_ex rfl rfl) ?_
  refine a_op rfl (o_ex rfl rfl) ?_
  refine a_op rfl (o_as rfl) ?_
  refine a_op rfl (o_as rfl) ?_
  refine a_op rfl (o_as rfl) ?_
  refine a_nil ?_
  refine tq_n ?_
  refine awp_seq ?_
  refine w_reg (l := r10_15.toList) rfl r10_15_ok ?_
  refine a_op rfl ((by first | exact o_ldg tg30 tn30 rfl rfl | exact o_ldpg tg30 tn30 rfl rfl rfl rfl)) ?_
  refine a_op rfl (o_mv rfl) ?_
  refine a_op rfl (o_mv rfl) ?_
  refine a_lend (vs' := [refAV nilS nilS nilS false ((sixL 6)), .sl 5 false ((rulesF l).map ruleAV), .sl 1 false (((offF fl ++ [3000, 3000]) : List Int).map intAV), .raw (.int .i64 0)]) rfl rfl rfl cb18 (openW_ok (by omega) hRx (by simp; omega) _ hw4) ⟨rs_pur (by simp [refAV, nilS]) rfl, rs_pur (by simp) rfl, rs_slo id rfl (by simp) ((pur_ints _).2 trivial) (by simp [intAV]), rs_pur (by simp) rfl, trivial⟩ (by simp) ?_
  refine a_op rfl (o_mv rfl) ?_
  refine a_op rfl (o_ex rfl rfl) ?_
  refine a_op rfl (o_ex rfl rfl) ?_
  refine a_op rfl (o_as rfl) ?_
  refine a_op rfl (o_as rfl) ?_
  refine a_nil ?_
  refine tq_n ?_
  refine awp_seq ?_
  refine w_reg (l := r10_16.toList) rfl r10_16_ok ?_
  refine a_op rfl ((by first | exact o_ldg tg30 tn30 rfl rfl | exact o_ldpg tg30 tn30 rfl rfl rfl rfl)) ?_
  refine a_op rfl (o_mv rfl) ?_
  refine a_op rfl (o_mv rfl) ?_
  refine a_pure rfl rfl rfl cb18 (Open_ok _ _ _ cel_nilS cel_nilS cel_nilS _ _ (by omega) _ _ (by omega) hRx _ _ (by omega) _ (by omega) six_pw) ?_
  refine a_op rfl (o_mv rfl) ?_
  refine a_op rfl (o_ex rfl rfl) ?_
  refine a_op rfl (o_ex rfl rfl) ?_
  refine a_op rfl (o_as rfl) ?_
  refine a_op rfl (o_as rfl) ?_
  refine a_nil ?_
  refine tq_n ?_
  refine awp_seq ?_
  refine w_reg (l := r10_17.toList) rfl r10_17_ok ?_
  refine a_op rfl (o_mv rfl) ?_
  refine a_if rfl (o_eq rfl rfl) (fun h9 => ?_) (fun h10 => ?_)
  · refine a_op rfl (o_mv rfl) ?_
    refine a_op rfl (o_mv rfl) ?_
    refine a_if rfl (o_eq rfl rfl) (fun h11 => ?_) (fun h12 => ?_)
    · refine a_op rfl (o_pkt rfl rfl) ?_
      refine a_op rfl (o_mv rfl) ?_
      refine a_op rfl (o_mv rfl) ?_
      refine a_if rfl (o_eq rfl rfl) (fun h13 => ?_) (fun h14 => ?_)
      · refine a_op rfl (o_pkt rfl rfl) ?_
        refine a_op rfl (o_mv rfl) ?_
        refine a_op rfl (o_mv rfl) ?_
        refine a_if rfl (o_eq rfl rfl) (fun h15 => ?_) (fun h16 => ?_)
        · refine a_op rfl (o_pkt rfl rfl) ?_
          refine a_op rfl (o_mv rfl) ?_
          refine a_op rfl (o_mv rfl) ?_
          refine a_if rfl (o_eq rfl rfl) (fun h17 => ?_) (fun h18 => ?_)
          · refine a_op rfl (o_pkt rfl rfl) ?_
            refine a_op rfl (o_mv rfl) ?_
            refine a_op rfl (o_mv rfl) ?_
            refine a_if rfl (o_eq rfl rfl) (fun h19 => ?_) (fun h20 => ?_)
            · refine a_op rfl (o_pkt rfl rfl) ?_
              refine a_op rfl (o_mv rfl) ?_
              refine a_op rfl (o_mv rfl) ?_
              refine a_if rfl (o_eq rfl rfl) (fun h21 => ?_) (fun h22 => ?_)
              · refine a_op rfl (o_pkt rfl rfl) ?_
                refine a_op rfl (o_mv rfl) ?_
                refine a_pure rfl rfl rfl cb15 (awake_ok) ?_
                refine a_op rfl (o_pkt rfl rfl) ?_
                refine a_op rfl (o_as rfl) ?_
                refine a_nil ?_
                refine tq_n ?_
                refine awp_ret ?_
                refine r_one rfl ⟨rfl, trivial⟩ ?_
                exact rs_pur (by simp) rfl
              omega
            omega
          omega
        omega
      omega
    omega
  omega
end Go.Ab.D
