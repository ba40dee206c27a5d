/- What functions of this program compute, and the laws of what they compute, under the bounds on lengths that each contract states. -/
import Derived.Test.YtghoaglolhdoeaaDoorD21
set_option linter.unusedSimpArgs false
set_option linter.unusedVariables false
namespace Go.Ab.D
open Go Go.Ab Go.Proofs
theorem yrE0 (f t : Int) : yrE 0 f t = 0 ↔ yd f = true ∧ yd t = true := by
  have hw : wi 0 730484 = 0 := by decide
  unfold yd yrE
  simp only [hw, ne_eq, not_true_eq_false, if_false, decide_eq_true_eq, and_self]
  by_cases h1 : dated 2004 (f.tdiv 100) (f.tmod 100) = true <;> by_cases h2 : dated 2004 (t.tdiv 100) (t.tmod 100) = true <;> simp [h1, h2]

noncomputable def r25_0 : Array Oper := opsAt Tryd.f25 [0]
theorem r25_0_ok : dstOk 96 r25_0.toList = true ∧ r25_0.toList.all (fun o => noDefer o.op) = true := by decide +kernel
noncomputable def r25_1 : Array Oper := opsAt Tryd.f25 [1, 0, 0]
theorem r25_1_ok : dstOk 96 r25_1.toList = true ∧ r25_1.toList.all (fun o => noDefer o.op) = true := by decide +kernel
noncomputable def r25_2 : Array Oper := opsAt Tryd.f25 [1, 0, 1, 0, 0]
theorem r25_2_ok : dstOk 96 r25_2.toList = true ∧ r25_2.toList.all (fun o => noDefer o.op) = true := by decide +kernel
noncomputable def r25_3 : Array Oper := opsAt Tryd.f25 [1, 1, 0, 0]
theorem r25_3_ok : dstOk 96 r25_3.toList = true ∧ r25_3.toList.all (fun o => noDefer o.op) = true := by decide +kernel
noncomputable def r25_4 : Array Oper := opsAt Tryd.f25 [1, 1, 0, 1, 0, 0, 0, 0]
theorem r25_4_ok : dstOk 96 r25_4.toList = true ∧ r25_4.toList.all (fun o => noDefer o.op) = true := by decide +kernel
noncomputable def r25_6 : Array Oper := opsAt Tryd.f25 [1, 1, 0, 1, 0, 0, 1, 0, 0, 0]
theorem r25_6_ok : dstOk 96 r25_6.toList = true ∧ r25_6.toList.all (fun o => noDefer o.op) = true := by decide +kernel
noncomputable def r25_7 : Array Oper := opsAt Tryd.f25 [1, 1, 0, 1, 0, 0, 1, 0, 0, 1, 0]
theorem r25_7_ok : dstOk 96 r25_7.toList = true ∧ r25_7.toList.all (fun o => noDefer o.op) = true := by decide +kernel
noncomputable def r25_8 : Array Oper := opsAt Tryd.f25 [1, 1, 0, 1, 0, 0, 1, 0, 0, 1, 1, 0, 0]
theorem r25_8_ok : dstOk 96 r25_8.toList = true ∧ r25_8.toList.all (fun o => noDefer o.op) = true := by decide +kernel
noncomputable def r25_9 : Array Oper := opsAt Tryd.f25 [1, 1, 0, 1, 0, 0, 1, 0, 0, 1, 1, 0, 1, 0, 0]
theorem r25_9_ok : dstOk 96 r25_9.toList = true ∧ r25_9.toList.all (fun o => noDefer o.op) = true := by decide +kernel
noncomputable def r25_10 : Array Oper := opsAt Tryd.f25 [1, 1, 0, 1, 0, 0, 1, 0, 0, 1, 1, 0, 1, 0, 1]
theorem r25_10_ok : dstOk 96 r25_10.toList = true ∧ r25_10.toList.all (fun o => noDefer o.op) = true := by decide +kernel
noncomputable def r25_11 : Array Oper := opsAt Tryd.f25 [1, 1, 0, 1, 0, 0, 1, 0, 0, 1, 1, 1, 0, 0]
theorem r25_11_ok : dstOk 96 r25_11.toList = true ∧ r25_11.toList.all (fun o => noDefer o.op) = true := by decide +kernel
noncomputable def r25_12 : Array Oper := opsAt Tryd.f25 [1, 1, 0, 1, 0, 0, 1, 0, 0, 1, 1, 1, 0, 1, 0]
theorem r25_12_ok : dstOk 96 r25_12.toList = true ∧ r25_12.toList.all (fun o => noDefer o.op) = true := by decide +kernel
noncomputable def r25_13 : Array Oper := opsAt Tryd.f25 [1, 1, 0, 1, 0, 0, 1, 0, 0, 1, 1, 1, 1, 0, 0]
theorem r25_13_ok : dstOk 96 r25_13.toList = true ∧ r25_13.toList.all (fun o => noDefer o.op) = true := by decide +kernel
noncomputable def r25_14 : Array Oper := opsAt Tryd.f25 [1, 1, 0, 1, 0, 0, 1, 0, 0, 1, 1, 1, 1, 0, 1, 0]
theorem r25_14_ok : dstOk 96 r25_14.toList = true ∧ r25_14.toList.all (fun o => noDefer o.op) = true := by decide +kernel
noncomputable def r25_15 : Array Oper := opsAt Tryd.f25 [1, 1, 0, 1, 0, 0, 1, 0, 0, 1, 1, 1, 1, 1, 0]
theorem r25_15_ok : dstOk 96 r25_15.toList = true ∧ r25_15.toList.all (fun o => noDefer o.op) = true := by decide +kernel
noncomputable def r25_16 : Array Oper := opsAt Tryd.f25 [1, 1, 0, 1, 0, 0, 1, 0, 0, 1, 1, 1, 1, 1, 1, 0, 0]
theorem r25_16_ok : dstOk 96 r25_16.toList = true ∧ r25_16.toList.all (fun o => noDefer o.op) = true := by decide +kernel
noncomputable def r25_5 : Array Oper := opsAt Tryd.f25 [1, 1, 0, 1, 0, 0, 1, 1]
theorem r25_5_ok : dstOk 96 r25_5.toList = true ∧ r25_5.toList.all (fun o => noDefer o.op) = true := by decide +kernel
noncomputable def b25_0 : Code := (.seq (.seq (.region 4 r25_4 false) (.cond (.tmp 17) .skip (.exit 0))) (.seq (.block 1 (.seq (.region 6 r25_6 false) (.seq (.region 7 r25_7 false) (.seq (.seq (.region 8 r25_8 false) (.cond (.tmp 26) (.seq (.region 9 r25_9 false) (.region 10 r25_10 false)) .skip)) (.seq (.seq (.region 11 r25_11 false) (.cond (.tmp 44) (.region 12 r25_12 false) .skip)) (.seq (.seq (.region 13 r25_13 false) (.cond (.tmp 67) (.region 14 r25_14 false) .skip)) (.seq (.region 15 r25_15 false) (.cond (.tmp 94) (.seq (.region 16 r25_16 false) .ret) .skip)))))))) (.region 5 r25_5 false)))
noncomputable def r25_17 : Array Oper := opsAt Tryd.f25 [1, 1, 1, 0]
theorem r25_17_ok : dstOk 96 r25_17.toList = true ∧ r25_17.toList.all (fun o => noDefer o.op) = true := by decide +kernel
noncomputable def c25 : Code := (.seq (.region 0 r25_0 false) (.seq (.seq (.region 1 r25_1 false) (.cond (.tmp 13) (.seq (.region 2 r25_2 false) .ret) .skip)) (.seq (.seq (.region 3 r25_3 false) (.block 0 (.loop b25_0))) (.seq (.region 17 r25_17 false) .ret))))
theorem body25 : Tryd.f25.body = some c25 := by kernel_rfl
set_option maxHeartbeats 4000000 in
theorem rValid_ok (a1 a2 a3 : AV) (g1 : Cel a1) (g2 : Cel a2) (g3 : Cel a3) (b : Bool) (pts : List PtR) (hl : pts.length ≤ 4611686018427387904) (b1 : Bool) (rules : List RuleR) (hl1 : rules.length ≤ 9223372036854775807) (hx1 : ∀ x ∈ rules, x.ok) : PureCall Tryd.prog GL 25 [refAV a1 a2 a3 b pts, .sl 5 b1 (rules.map ruleAV)] (.tup [.raw (.int .i64 (validF pts rules).1), .raw (.int .i64 (validF pts rules).2)]) := by
  refine pure_of_body Tryd.func25 body25 (Nat.le_of_ble_eq_true rfl) (by simp [pur_ref g1 g2 g3]) (by simp) ?_
  refine w_keep [(0, refAV a1 a2 a3 b pts), (1, .sl 5 b1 (rules.map ruleAV))] ⟨rfl, rfl, trivial⟩ ?_
  unfold c25
  refine awp_seq ?_
  refine w_reg (l := r25_0.toList) rfl r25_0_ok ?_
  refine a_op rfl (o_box (N := 0) rfl (by first | exact ref_good g1 g2 g3 | rfl) rfl rfl) ?_
  refine a_op rfl (o_as rfl) ?_
  refine a_op rfl (o_as rfl) ?_
  refine a_nil ?_
  refine tq_n ?_
  refine awp_seq ?_
  refine awp_seq ?_
  refine w_reg (l := r25_1.toList) rfl r25_1_ok ?_
  refine a_op rfl (o_mv rfl) ?_
  refine a_op rfl (o_len rfl rfl (by first | exact List.length_map .. | rfl) tl32) ?_
  refine a_if rfl (o_gt rfl rfl) (fun h1 => ?_) (fun h2 => ?_)
  · refine a_nil ?_
    refine tq_n ?_
    refine w_true rfl ?_
    refine awp_seq ?_
    refine w_reg (l := r25_2.toList) rfl r25_2_ok ?_
    refine a_op rfl (o_as rfl) ?_
    refine a_op rfl (o_as rfl) ?_
    refine a_nil ?_
    refine tq_n ?_
    refine awp_ret ?_
    refine tq_r ?_
    refine r_tup (xs := []) rfl ⟨rfl, rfl, trivial⟩ ?_
    have hv : validF pts rules = (0, 5) := by rw [validF, if_pos (by omega)]
    exact rs_tup ⟨rs_int (by rw [hv]), rs_int (by rw [hv]), trivial⟩
  refine a_nil ?_
  refine tq_n ?_
  refine w_false rfl ?_
  refine awp_skip ?_
  refine tq_n ?_
  refine awp_seq ?_
  refine awp_seq ?_
  refine w_reg (l := r25_3.toList) rfl r25_3_ok ?_
  refine a_op rfl (o_as rfl) ?_
  refine a_nil ?_
  refine tq_n ?_
  refine awp_block ?_
  refine w_loop (fun i : Nat => i ≤ rules.length ∧ vF pts rules 0 = vF pts (rules.drop i) i) (fun i => [(1, .sl 5 b1 (rules.map ruleAV)), (2, .ptr 0 0), (6, .raw (.int .i64 ((i : Nat) : Int)))]) (fun _ => [.var [a1, a2, a3, .sl 8 b (pts.map ptAV)]]) (fun i => rules.length - i) (0) ⟨by simp, by simp⟩ ⟨(by first | exact sub_int rfl (by omega) | rfl), (by first | exact sub_int rfl (by omega) | rfl), (by first | exact sub_int rfl (by omega) | rfl), trivial⟩ rfl ?_
  intro i ⟨hp1, hp2⟩
  unfold b25_0
  refine awp_seq ?_
  refine awp_seq ?_
  refine w_reg (l := r25_4.toList) rfl r25_4_ok ?_
  refine a_op rfl (o_mv rfl) ?_
  refine a_op rfl (o_mv rfl) ?_
  refine a_op rfl (o_len rfl rfl (by first | exact List.length_map .. | rfl) tl32) ?_
  refine a_if rfl (o_lt rfl rfl) (fun h3 => ?_) (fun h4 => ?_)
  · refine a_nil ?_
    refine tq_n ?_
    refine w_true rfl ?_
    refine awp_skip ?_
    refine tq_n ?_
    refine awp_seq ?_
    refine awp_block ?_
    refine awp_seq ?_
    have hi : i < rules.length := by omega
    have hxk := hx1 _ (List.getElem_mem hi)
    refine w_reg (l := r25_6.toList) rfl r25_6_ok ?_
    refine a_op rfl (o_mv rfl) ?_
    refine a_op rfl (o_mv rfl) ?_
    refine a_op rfl (o_ix te32 tn37 rfl rfl rfl (ixm _ _ _ hi)) ?_
    refine a_op rfl ((by first | exact o_ldg tg37 tn37 rfl rfl | exact o_ldpg tg37 tn37 rfl rfl rfl rfl)) ?_
    refine a_op rfl (o_al (N := 1) tz37 rfl rfl rfl) ?_
    refine a_op0 rfl (o_st (N := 4) tn37 rfl rfl rfl rfl rfl) ?_
    refine a_nil ?_
    refine tq_n ?_
    refine awp_seq ?_
    refine w_reg (l := r25_7.toList) rfl r25_7_ok ?_
    refine a_op rfl (o_as rfl) ?_
    refine a_nil ?_
    refine tq_n ?_
    refine awp_seq ?_
    refine awp_seq ?_
    refine w_reg (l := r25_8.toList) rfl r25_8_ok ?_
    refine a_op rfl ((by first | exact o_fa tf37_1 rfl rfl | exact o_fap tf37_1 rfl rfl)) ?_
    refine a_op rfl ((by first | exact o_ld tg5 rfl rfl | exact o_ldp tg5 rfl rfl rfl rfl)) ?_
    refine a_if rfl (o_eq rfl rfl) (fun h5 => ?_) (fun h6 => ?_)
    · refine a_nil ?_
      refine tq_n ?_
      refine w_true rfl ?_
      refine awp_seq ?_
      refine w_reg (l := r25_9.toList) rfl r25_9_ok ?_
      refine a_op rfl ((by first | exact o_fa tf37_2 rfl rfl | exact o_fap tf37_2 rfl rfl)) ?_
      refine a_op rfl ((by first | exact o_ld tg3 rfl rfl | exact o_ldp tg3 rfl rfl rfl rfl)) ?_
      refine a_op rfl ((by first | exact o_fa tf37_3 rfl rfl | exact o_fap tf37_3 rfl rfl)) ?_
      refine a_op rfl ((by first | exact o_ld tg3 rfl rfl | exact o_ldp tg3 rfl rfl rfl rfl)) ?_
      refine a_pure rfl rfl rfl cb46 (ryearly_ok _ _ _ hxk.1 hxk.2.1) ?_
      refine a_op rfl (o_mv rfl) ?_
      refine a_op rfl (o_ex rfl rfl) ?_
      refine a_op rfl (o_ex rfl rfl) ?_
      refine a_op rfl (o_as rfl) ?_
      refine a_op rfl (o_as rfl) ?_
      refine a_nil ?_
      refine tq_n ?_
      have hy0 := yrE0 (rules[i]'hi).frm (rules[i]'hi).to
      refine w_reg (l := r25_10.toList) rfl r25_10_ok ?_
      refine a_op rfl (o_mv rfl) ?_
      refine a_if rfl (o_eq rfl rfl) (fun h7 => ?_) (fun h8 => ?_)
      · refine a_op rfl (o_mv rfl) ?_
        refine a_op rfl ((by first | exact o_fa tf37_4 rfl rfl | exact o_fap tf37_4 rfl rfl)) ?_
        refine a_op rfl ((by first | exact o_ld tg5 rfl rfl | exact o_ldp tg5 rfl rfl rfl rfl)) ?_
        refine a_op rfl (o_eq rfl rfl) ?_
        refine a_op rfl (o_pkt rfl rfl) ?_
        refine a_op rfl (o_as rfl) ?_
        refine a_nil ?_
        refine tq_n ?_
        refine awp_seq ?_
        refine awp_seq ?_
        refine w_reg (l := r25_11.toList) rfl r25_11_ok ?_
        refine a_op rfl ((by first | exact o_fa tf37_1 rfl rfl | exact o_fap tf37_1 rfl rfl)) ?_
        refine a_op rfl ((by first | exact o_ld tg5 rfl rfl | exact o_ldp tg5 rfl rfl rfl rfl)) ?_
        refine a_if rfl (o_eq rfl rfl) (fun h9 => ?_) (fun h10 => ?_)
        · omega
        refine a_nil ?_
        refine tq_n ?_
        refine w_false rfl ?_
        refine awp_skip ?_
        refine tq_n ?_
        refine awp_seq ?_
        refine awp_seq ?_
        refine w_reg (l := r25_13.toList) rfl r25_13_ok ?_
        refine a_op rfl ((by first | exact o_fa tf37_1 rfl rfl | exact o_fap tf37_1 rfl rfl)) ?_
        refine a_op rfl ((by first | exact o_ld tg5 rfl rfl | exact o_ldp tg5 rfl rfl rfl rfl)) ?_
        refine a_if rfl (o_eq rfl rfl) (fun h11 => ?_) (fun h12 => ?_)
        · omega
        refine a_nil ?_
        refine tq_n ?_
        refine w_false rfl ?_
        refine awp_skip ?_
        refine tq_n ?_
        refine awp_seq ?_
        refine w_reg (l := r25_15.toList) rfl r25_15_ok ?_
        refine a_ifb rfl (o_mv rfl) (fun h13 => ?_) (fun h14 => ?_)
        · refine a_op rfl (o_ntt rfl) ?_
          refine a_op rfl (o_mv rfl) ?_
          refine a_op rfl ((by first | exact o_ldg tg30 tn30 rfl rfl | exact o_ldpg tg30 tn30 rfl rfl rfl rfl)) ?_
          refine a_op rfl ((by first | exact o_fa tf37_0 rfl rfl | exact o_fap tf37_0 rfl rfl)) ?_
          refine a_op rfl ((by first | exact o_ld tg3 rfl rfl | exact o_ldp tg3 rfl rfl rfl rfl)) ?_
          refine a_pure rfl rfl rfl cb47 (rpoint_ok _ _ _ g1 g2 g3 _ _ (by omega) _) ?_
          refine a_if rfl (o_lt rfl rfl) (fun h15 => ?_) (fun h16 => ?_)
          · have hfn : findP pts (rules[i]'hi).pt = none := ixf_neg (by omega)
            refine a_op rfl (o_pkf rfl rfl) ?_
            refine a_nil ?_
            refine tq_n ?_
            refine w_true rfl ?_
            refine awp_seq ?_
            refine w_reg (l := r25_16.toList) rfl r25_16_ok ?_
            refine a_op rfl (o_mv rfl) ?_
            refine a_op rfl (o_as rfl) ?_
            refine a_op rfl (o_as rfl) ?_
            refine a_nil ?_
            refine tq_n ?_
            refine awp_ret ?_
            refine bq_r ?_
            refine tq_r ?_
            refine tq_r ?_
            refine bq_r ?_
            refine tq_r ?_
            refine r_tup (xs := []) rfl ⟨rfl, rfl, trivial⟩ ?_
            have hv : validF pts rules = ((i : Int), 130) := by rw [validF, if_neg (by omega), hp2]; exact vF_bad hi (by simp only [okR]; simp_all <;> omega)
            exact rs_tup ⟨rs_int (by rw [hv]), rs_int (by rw [hv]), trivial⟩
          obtain ⟨jj, hjj, hje, hfs⟩ := ixf_pos (n := (rules[i]'hi).pt) (pts := pts) (by omega)
          refine a_op rfl (o_pkf rfl rfl) ?_
          refine a_nil ?_
          refine tq_n ?_
          refine w_false rfl ?_
          refine awp_skip ?_
          refine bq_n ?_
          refine tq_n ?_
          refine w_view [(1, .sl 5 b1 (rules.map ruleAV)), (2, .ptr 0 0), (6, .raw (.int .i64 ((i : Nat) : Int)))] [.var [a1, a2, a3, .sl 8 b (pts.map ptAV)]] 1 rfl (Nat.le_of_ble_eq_true rfl) (Nat.le_of_ble_eq_true rfl) ⟨⟨_, rfl, (by first | exact .sloK (Nat.le_of_ble_eq_true rfl) | exact .ptrK (Nat.le_of_ble_eq_true rfl) | exact rs_pur (by simp) rfl)⟩, ⟨_, rfl, (by first | exact .sloK (Nat.le_of_ble_eq_true rfl) | exact .ptrK (Nat.le_of_ble_eq_true rfl) | exact rs_pur (by simp) rfl)⟩, ⟨_, rfl, (by first | exact .sloK (Nat.le_of_ble_eq_true rfl) | exact .ptrK (Nat.le_of_ble_eq_true rfl) | exact rs_pur (by simp) rfl)⟩, trivial⟩ ⟨ors_var ⟨rs_pur g1.1 rfl, rs_pur g2.1 rfl, rs_pur g3.1 rfl, rs_pur (by simp) rfl, trivial⟩, trivial⟩ ?_
          refine w_reg (l := r25_5.toList) rfl r25_5_ok ?_
          refine a_op rfl (o_mv rfl) ?_
          refine a_op rfl (o_add rfl rfl (by simp only [klo, khi]; omega)) ?_
          refine a_op rfl (o_as rfl) ?_
          refine a_nil ?_
          refine tq_n ?_
          exact ⟨i + 1, ⟨⟨by omega, hp2.trans (vF_good hi (by simp only [okR]; simp_all <;> omega))⟩, by omega⟩, ⟨(by first | exact sub_int rfl (by omega) | rfl), (by first | exact sub_int rfl (by omega) | rfl), (by first | exact sub_int rfl (by omega) | rfl), trivial⟩, rfl⟩
        refine a_op rfl (o_ntf rfl) ?_
        refine a_op rfl (o_mv rfl) ?_
        refine a_off rfl ?_
        refine a_off rfl ?_
        refine a_off rfl ?_
        refine a_off rfl ?_
        refine a_off rfl ?_
        refine a_op rfl (o_pkt rfl rfl) ?_
        refine a_nil ?_
        refine tq_n ?_
        refine w_true rfl ?_
        refine awp_seq ?_
        refine w_reg (l := r25_16.toList) rfl r25_16_ok ?_
        refine a_op rfl (o_mv rfl) ?_
        refine a_op rfl (o_as rfl) ?_
        refine a_op rfl (o_as rfl) ?_
        refine a_nil ?_
        refine tq_n ?_
        refine awp_ret ?_
        refine bq_r ?_
        refine tq_r ?_
        refine tq_r ?_
        refine bq_r ?_
        refine tq_r ?_
        refine r_tup (xs := []) rfl ⟨rfl, rfl, trivial⟩ ?_
        have hv : validF pts rules = ((i : Int), 130) := by rw [validF, if_neg (by omega), hp2]; exact vF_bad hi (by simp only [okR]; simp_all <;> omega)
        exact rs_tup ⟨rs_int (by rw [hv]), rs_int (by rw [hv]), trivial⟩
      refine a_op rfl (o_mv rfl) ?_
      refine a_off rfl ?_
      refine a_off rfl ?_
      refine a_off rfl ?_
      refine a_op rfl (o_pkf rfl rfl) ?_
      refine a_op rfl (o_as rfl) ?_
      refine a_nil ?_
      refine tq_n ?_
      refine awp_seq ?_
      refine awp_seq ?_
      refine w_reg (l := r25_11.toList) rfl r25_11_ok ?_
      refine a_op rfl ((by first | exact o_fa tf37_1 rfl rfl | exact o_fap tf37_1 rfl rfl)) ?_
      refine a_op rfl ((by first | exact o_ld tg5 rfl rfl | exact o_ldp tg5 rfl rfl rfl rfl)) ?_
      refine a_if rfl (o_eq rfl rfl) (fun h17 => ?_) (fun h18 => ?_)
      · omega
      refine a_nil ?_
      refine tq_n ?_
      refine w_false rfl ?_
      refine awp_skip ?_
      refine tq_n ?_
      refine awp_seq ?_
      refine awp_seq ?_
      refine w_reg (l := r25_13.toList) rfl r25_13_ok ?_
      refine a_op rfl ((by first | exact o_fa tf37_1 rfl rfl | exact o_fap tf37_1 rfl rfl)) ?_
      refine a_op rfl ((by first | exact o_ld tg5 rfl rfl | exact o_ldp tg5 rfl rfl rfl rfl)) ?_
      refine a_if rfl (o_eq rfl rfl) (fun h19 => ?_) (fun h20 => ?_)
      · omega
      refine a_nil ?_
      refine tq_n ?_
      refine w_false rfl ?_
      refine awp_skip ?_
      refine tq_n ?_
      refine awp_seq ?_
      refine w_reg (l := r25_15.toList) rfl r25_15_ok ?_
      refine a_op rfl (o_mv rfl) ?_
      refine a_op rfl (o_ntf rfl) ?_
      refine a_op rfl (o_mv rfl) ?_
      refine a_off rfl ?_
      refine a_off rfl ?_
      refine a_off rfl ?_
      refine a_off rfl ?_
      refine a_off rfl ?_
      refine a_op rfl (o_pkt rfl rfl) ?_
      refine a_nil ?_
      refine tq_n ?_
      refine w_true rfl ?_
      refine awp_seq ?_
      refine w_reg (l := r25_16.toList) rfl r25_16_ok ?_
      refine a_op rfl (o_mv rfl) ?_
      refine a_op rfl (o_as rfl) ?_
      refine a_op rfl (o_as rfl) ?_
      refine a_nil ?_
      refine tq_n ?_
      refine awp_ret ?_
      refine bq_r ?_
      refine tq_r ?_
      refine tq_r ?_
      refine bq_r ?_
      refine tq_r ?_
      refine r_tup (xs := []) rfl ⟨rfl, rfl, trivial⟩ ?_
      have hv : validF pts rules = ((i : Int), 130) := by rw [validF, if_neg (by omega), hp2]; exact vF_bad hi (by simp only [okR]; simp_all <;> omega)
      exact rs_tup ⟨rs_int (by rw [hv]), rs_int (by rw [hv]), trivial⟩
    refine a_nil ?_
    refine tq_n ?_
    refine w_false rfl ?_
    refine awp_skip ?_
    refine tq_n ?_
    refine awp_seq ?_
    refine awp_seq ?_
    refine w_reg (l := r25_11.toList) rfl r25_11_ok ?_
    refine a_op rfl ((by first | exact o_fa tf37_1 rfl rfl | exact o_fap tf37_1 rfl rfl)) ?_
    refine a_op rfl ((by first | exact o_ld tg5 rfl rfl | exact o_ldp tg5 rfl rfl rfl rfl)) ?_
    refine a_if rfl (o_eq rfl rfl) (fun h21 => ?_) (fun h22 => ?_)
    · refine a_nil ?_
      refine tq_n ?_
      refine w_true rfl ?_
      refine w_reg (l := r25_12.toList) rfl r25_12_ok ?_
      refine a_op rfl ((by first | exact o_fa tf37_2 rfl rfl | exact o_fap tf37_2 rfl rfl)) ?_
      refine a_op rfl ((by first | exact o_ld tg3 rfl rfl | exact o_ldp tg3 rfl rfl rfl rfl)) ?_
      refine a_if rfl (o_le rfl rfl) (fun h23 => ?_) (fun h24 => ?_)
      · refine a_op rfl (o_mv rfl) ?_
        refine a_op rfl ((by first | exact o_fa tf37_2 rfl rfl | exact o_fap tf37_2 rfl rfl)) ?_
        refine a_op rfl ((by first | exact o_ld tg3 rfl rfl | exact o_ldp tg3 rfl rfl rfl rfl)) ?_
        refine a_op rfl ((by first | exact o_fa tf37_3 rfl rfl | exact o_fap tf37_3 rfl rfl)) ?_
        refine a_op rfl ((by first | exact o_ld tg3 rfl rfl | exact o_ldp tg3 rfl rfl rfl rfl)) ?_
        refine a_if rfl (o_le rfl rfl) (fun h25 => ?_) (fun h26 => ?_)
        · refine a_op rfl (o_pkt rfl rfl) ?_
          refine a_op rfl (o_mv rfl) ?_
          refine a_op rfl ((by first | exact o_fa tf37_3 rfl rfl | exact o_fap tf37_3 rfl rfl)) ?_
          refine a_op rfl ((by first | exact o_ld tg3 rfl rfl | exact o_ldp tg3 rfl rfl rfl rfl)) ?_
          refine a_if rfl (o_le rfl rfl) (fun h27 => ?_) (fun h28 => ?_)
          · refine a_op rfl (o_pkt rfl rfl) ?_
            refine a_op rfl (o_mv rfl) ?_
            refine a_op rfl ((by first | exact o_fa tf37_4 rfl rfl | exact o_fap tf37_4 rfl rfl)) ?_
            refine a_op rfl ((by first | exact o_ld tg5 rfl rfl | exact o_ldp tg5 rfl rfl rfl rfl)) ?_
            refine a_op rfl (o_eq rfl rfl) ?_
            refine a_op rfl (o_pkt rfl rfl) ?_
            refine a_op rfl (o_as rfl) ?_
            refine a_nil ?_
            refine tq_n ?_
            refine awp_seq ?_
            refine awp_seq ?_
            refine w_reg (l := r25_13.toList) rfl r25_13_ok ?_
            refine a_op rfl ((by first | exact o_fa tf37_1 rfl rfl | exact o_fap tf37_1 rfl rfl)) ?_
            refine a_op rfl ((by first | exact o_ld tg5 rfl rfl | exact o_ldp tg5 rfl rfl rfl rfl)) ?_
            refine a_if rfl (o_eq rfl rfl) (fun h29 => ?_) (fun h30 => ?_)
            · omega
            refine a_nil ?_
            refine tq_n ?_
            refine w_false rfl ?_
            refine awp_skip ?_
            refine tq_n ?_
            refine awp_seq ?_
            refine w_reg (l := r25_15.toList) rfl r25_15_ok ?_
            refine a_ifb rfl (o_mv rfl) (fun h31 => ?_) (fun h32 => ?_)
            · refine a_op rfl (o_ntt rfl) ?_
              refine a_op rfl (o_mv rfl) ?_
              refine a_op rfl ((by first | exact o_ldg tg30 tn30 rfl rfl | exact o_ldpg tg30 tn30 rfl rfl rfl rfl)) ?_
              refine a_op rfl ((by first | exact o_fa tf37_0 rfl rfl | exact o_fap tf37_0 rfl rfl)) ?_
              refine a_op rfl ((by first | exact o_ld tg3 rfl rfl | exact o_ldp tg3 rfl rfl rfl rfl)) ?_
              refine a_pure rfl rfl rfl cb47 (rpoint_ok _ _ _ g1 g2 g3 _ _ (by omega) _) ?_
              refine a_if rfl (o_lt rfl rfl) (fun h33 => ?_) (fun h34 => ?_)
              · have hfn : findP pts (rules[i]'hi).pt = none := ixf_neg (by omega)
                refine a_op rfl (o_pkf rfl rfl) ?_
                refine a_nil ?_
                refine tq_n ?_
                refine w_true rfl ?_
                refine awp_seq ?_
                refine w_reg (l := r25_16.toList) rfl r25_16_ok ?_
                refine a_op rfl (o_mv rfl) ?_
                refine a_op rfl (o_as rfl) ?_
                refine a_op rfl (o_as rfl) ?_
                refine a_nil ?_
                refine tq_n ?_
                refine awp_ret ?_
                refine bq_r ?_
                refine tq_r ?_
                refine tq_r ?_
                refine bq_r ?_
                refine tq_r ?_
                refine r_tup (xs := []) rfl ⟨rfl, rfl, trivial⟩ ?_
                have hv : validF pts rules = ((i : Int), 130) := by rw [validF, if_neg (by omega), hp2]; exact vF_bad hi (by simp only [okR]; simp_all <;> omega)
                exact rs_tup ⟨rs_int (by rw [hv]), rs_int (by rw [hv]), trivial⟩
              obtain ⟨jj, hjj, hje, hfs⟩ := ixf_pos (n := (rules[i]'hi).pt) (pts := pts) (by omega)
              refine a_op rfl (o_pkf rfl rfl) ?_
              refine a_nil ?_
              refine tq_n ?_
              refine w_false rfl ?_
              refine awp_skip ?_
              refine bq_n ?_
              refine tq_n ?_
              refine w_view [(1, .sl 5 b1 (rules.map ruleAV)), (2, .ptr 0 0), (6, .raw (.int .i64 ((i : Nat) : Int)))] [.var [a1, a2, a3, .sl 8 b (pts.map ptAV)]] 1 rfl (Nat.le_of_ble_eq_true rfl) (Nat.le_of_ble_eq_true rfl) ⟨⟨_, rfl, (by first | exact .sloK (Nat.le_of_ble_eq_true rfl) | exact .ptrK (Nat.le_of_ble_eq_true rfl) | exact rs_pur (by simp) rfl)⟩, ⟨_, rfl, (by first | exact .sloK (Nat.le_of_ble_eq_true rfl) | exact .ptrK (Nat.le_of_ble_eq_true rfl) | exact rs_pur (by simp) rfl)⟩, ⟨_, rfl, (by first | exact .sloK (Nat.le_of_ble_eq_true rfl) | exact .ptrK (Nat.le_of_ble_eq_true rfl) | exact rs_pur (by simp) rfl)⟩, trivial⟩ ⟨ors_var ⟨rs_pur g1.1 rfl, rs_pur g2.1 rfl, rs_pur g3.1 rfl, rs_pur (by simp) rfl, trivial⟩, trivial⟩ ?_
              refine w_reg (l := r25_5.toList) rfl r25_5_ok ?_
              refine a_op rfl (o_mv rfl) ?_
              refine a_op rfl (o_add rfl rfl (by simp only [klo, khi]; omega)) ?_
              refine a_op rfl (o_as rfl) ?_
              refine a_nil ?_
              refine tq_n ?_
              exact ⟨i + 1, ⟨⟨by omega, hp2.trans (vF_good hi (by simp only [okR]; simp_all <;> omega))⟩, by omega⟩, ⟨(by first | exact sub_int rfl (by omega) | rfl), (by first | exact sub_int rfl (by omega) | rfl), (by first | exact sub_int rfl (by omega) | rfl), trivial⟩, rfl⟩
            refine a_op rfl (o_ntf rfl) ?_
            refine a_op rfl (o_mv rfl) ?_
            refine a_off rfl ?_
            refine a_off rfl ?_
            refine a_off rfl ?_
            refine a_off rfl ?_
            refine a_off rfl ?_
            refine a_op rfl (o_pkt rfl rfl) ?_
            refine a_nil ?_
            refine tq_n ?_
            refine w_true rfl ?_
            refine awp_seq ?_
            refine w_reg (l := r25_16.toList) rfl r25_16_ok ?_
            refine a_op rfl (o_mv rfl) ?_
            refine a_op rfl (o_as rfl) ?_
            refine a_op rfl (o_as rfl) ?_
            refine a_nil ?_
            refine tq_n ?_
            refine awp_ret ?_
            refine bq_r ?_
            refine tq_r ?_
            refine tq_r ?_
            refine bq_r ?_
            refine tq_r ?_
            refine r_tup (xs := []) rfl ⟨rfl, rfl, trivial⟩ ?_
            have hv : validF pts rules = ((i : Int), 130) := by rw [validF, if_neg (by omega), hp2]; exact vF_bad hi (by simp only [okR]; simp_all <;> omega)
            exact rs_tup ⟨rs_int (by rw [hv]), rs_int (by rw [hv]), trivial⟩
          refine a_op rfl (o_pkt rfl rfl) ?_
          refine a_op rfl (o_mv rfl) ?_
          refine a_off rfl ?_
          refine a_off rfl ?_
          refine a_off rfl ?_
          refine a_op rfl (o_pkf rfl rfl) ?_
          refine a_op rfl (o_as rfl) ?_
          refine a_nil ?_
          refine tq_n ?_
          refine awp_seq ?_
          refine awp_seq ?_
          refine w_reg (l := r25_13.toList) rfl r25_13_ok ?_
          refine a_op rfl ((by first | exact o_fa tf37_1 rfl rfl | exact o_fap tf37_1 rfl rfl)) ?_
          refine a_op rfl ((by first | exact o_ld tg5 rfl rfl | exact o_ldp tg5 rfl rfl rfl rfl)) ?_
          refine a_if rfl (o_eq rfl rfl) (fun h35 => ?_) (fun h36 => ?_)
          · omega
          refine a_nil ?_
          refine tq_n ?_
          refine w_false rfl ?_
          refine awp_skip ?_
          refine tq_n ?_
          refine awp_seq ?_
          refine w_reg (l := r25_15.toList) rfl r25_15_ok ?_
          refine a_op rfl (o_mv rfl) ?_
          refine a_op rfl (o_ntf rfl) ?_
          refine a_op rfl (o_mv rfl) ?_
          refine a_off rfl ?_
          refine a_off rfl ?_
          refine a_off rfl ?_
          refine a_off rfl ?_
          refine a_off rfl ?_
          refine a_op rfl (o_pkt rfl rfl) ?_
          refine a_nil ?_
          refine tq_n ?_
          refine w_true rfl ?_
          refine awp_seq ?_
          refine w_reg (l := r25_16.toList) rfl r25_16_ok ?_
          refine a_op rfl (o_mv rfl) ?_
          refine a_op rfl (o_as rfl) ?_
          refine a_op rfl (o_as rfl) ?_
          refine a_nil ?_
          refine tq_n ?_
          refine awp_ret ?_
          refine bq_r ?_
          refine tq_r ?_
          refine tq_r ?_
          refine bq_r ?_
          refine tq_r ?_
          refine r_tup (xs := []) rfl ⟨rfl, rfl, trivial⟩ ?_
          have hv : validF pts rules = ((i : Int), 130) := by rw [validF, if_neg (by omega), hp2]; exact vF_bad hi (by simp only [okR]; simp_all <;> omega)
          exact rs_tup ⟨rs_int (by rw [hv]), rs_int (by rw [hv]), trivial⟩
        refine a_op rfl (o_pkt rfl rfl) ?_
        refine a_op rfl (o_mv rfl) ?_
        refine a_off rfl ?_
        refine a_off rfl ?_
        refine a_off rfl ?_
        refine a_op rfl (o_pkf rfl rfl) ?_
        refine a_op rfl (o_mv rfl) ?_
        refine a_off rfl ?_
        refine a_off rfl ?_
        refine a_off rfl ?_
        refine a_op rfl (o_pkf rfl rfl) ?_
        refine a_op rfl (o_as rfl) ?_
        refine a_nil ?_
        refine tq_n ?_
        refine awp_seq ?_
        refine awp_seq ?_
        refine w_reg (l := r25_13.toList) rfl r25_13_ok ?_
        refine a_op rfl ((by first | exact o_fa tf37_1 rfl rfl | exact o_fap tf37_1 rfl rfl)) ?_
        refine a_op rfl ((by first | exact o_ld tg5 rfl rfl | exact o_ldp tg5 rfl rfl rfl rfl)) ?_
        refine a_if rfl (o_eq rfl rfl) (fun h37 => ?_) (fun h38 => ?_)
        · omega
        refine a_nil ?_
        refine tq_n ?_
        refine w_false rfl ?_
        refine awp_skip ?_
        refine tq_n ?_
        refine awp_seq ?_
        refine w_reg (l := r25_15.toList) rfl r25_15_ok ?_
        refine a_op rfl (o_mv rfl) ?_
        refine a_op rfl (o_ntf rfl) ?_
        refine a_op rfl (o_mv rfl) ?_
        refine a_off rfl ?_
        refine a_off rfl ?_
        refine a_off rfl ?_
        refine a_off rfl ?_
        refine a_off rfl ?_
        refine a_op rfl (o_pkt rfl rfl) ?_
        refine a_nil ?_
        refine tq_n ?_
        refine w_true rfl ?_
        refine awp_seq ?_
        refine w_reg (l := r25_16.toList) rfl r25_16_ok ?_
        refine a_op rfl (o_mv rfl) ?_
        refine a_op rfl (o_as rfl) ?_
        refine a_op rfl (o_as rfl) ?_
        refine a_nil ?_
        refine tq_n ?_
        refine awp_ret ?_
        refine bq_r ?_
        refine tq_r ?_
        refine tq_r ?_
        refine bq_r ?_
        refine tq_r ?_
        refine r_tup (xs := []) rfl ⟨rfl, rfl, trivial⟩ ?_
        have hv : validF pts rules = ((i : Int), 130) := by rw [validF, if_neg (by omega), hp2]; exact vF_bad hi (by simp only [okR]; simp_all <;> omega)
        exact rs_tup ⟨rs_int (by rw [hv]), rs_int (by rw [hv]), trivial⟩
      refine a_op rfl (o_mv rfl) ?_
      refine a_off rfl ?_
      refine a_off rfl ?_
      refine a_off rfl ?_
      refine a_off rfl ?_
      refine a_off rfl ?_
      refine a_op rfl (o_pkf rfl rfl) ?_
      refine a_op rfl (o_mv rfl) ?_
      refine a_off rfl ?_
      refine a_off rfl ?_
      refine a_off rfl ?_
      refine a_op rfl (o_pkf rfl rfl) ?_
      refine a_op rfl (o_mv rfl) ?_
      refine a_off rfl ?_
      refine a_off rfl ?_
      refine a_off rfl ?_
      refine a_op rfl (o_pkf rfl rfl) ?_
      refine a_op rfl (o_as rfl) ?_
      refine a_nil ?_
      refine tq_n ?_
      refine awp_seq ?_
      refine awp_seq ?_
      refine w_reg (l := r25_13.toList) rfl r25_13_ok ?_
      refine a_op rfl ((by first | exact o_fa tf37_1 rfl rfl | exact o_fap tf37_1 rfl rfl)) ?_
      refine a_op rfl ((by first | exact o_ld tg5 rfl rfl | exact o_ldp tg5 rfl rfl rfl rfl)) ?_
      refine a_if rfl (o_eq rfl rfl) (fun h39 => ?_) (fun h40 => ?_)
      · omega
      refine a_nil ?_
      refine tq_n ?_
      refine w_false rfl ?_
      refine awp_skip ?_
      refine tq_n ?_
      refine awp_seq ?_
      refine w_reg (l := r25_15.toList) rfl r25_15_ok ?_
      refine a_op rfl (o_mv rfl) ?_
      refine a_op rfl (o_ntf rfl) ?_
      refine a_op rfl (o_mv rfl) ?_
      refine a_off rfl ?_
      refine a_off rfl ?_
      refine a_off rfl ?_
      refine a_off rfl ?_
      refine a_off rfl ?_
      refine a_op rfl (o_pkt rfl rfl) ?_
      refine a_nil ?_
      refine tq_n ?_
      refine w_true rfl ?_
      refine awp_seq ?_
      refine w_reg (l := r25_16.toList) rfl r25_16_ok ?_
      refine a_op rfl (o_mv rfl) ?_
      refine a_op rfl (o_as rfl) ?_
      refine a_op rfl (o_as rfl) ?_
      refine a_nil ?_
      refine tq_n ?_
      refine awp_ret ?_
      refine bq_r ?_
      refine tq_r ?_
      refine tq_r ?_
      refine bq_r ?_
      refine tq_r ?_
      refine r_tup (xs := []) rfl ⟨rfl, rfl, trivial⟩ ?_
      have hv : validF pts rules = ((i : Int), 130) := by rw [validF, if_neg (by omega), hp2]; exact vF_bad hi (by simp only [okR]; simp_all <;> omega)
      exact rs_tup ⟨rs_int (by rw [hv]), rs_int (by rw [hv]), trivial⟩
    refine a_nil ?_
    refine tq_n ?_
    refine w_false rfl ?_
    refine awp_skip ?_
    refine tq_n ?_
    refine awp_seq ?_
    refine awp_seq ?_
    refine w_reg (l := r25_13.toList) rfl r25_13_ok ?_
    refine a_op rfl ((by first | exact o_fa tf37_1 rfl rfl | exact o_fap tf37_1 rfl rfl)) ?_
    refine a_op rfl ((by first | exact o_ld tg5 rfl rfl | exact o_ldp tg5 rfl rfl rfl rfl)) ?_
    refine a_if rfl (o_eq rfl rfl) (fun h41 => ?_) (fun h42 => ?_)
    · refine a_nil ?_
      refine tq_n ?_
      refine w_true rfl ?_
      refine w_reg (l := r25_14.toList) rfl r25_14_ok ?_
      refine a_op rfl ((by first | exact o_fa tf37_2 rfl rfl | exact o_fap tf37_2 rfl rfl)) ?_
      refine a_op rfl ((by first | exact o_ld tg3 rfl rfl | exact o_ldp tg3 rfl rfl rfl rfl)) ?_
      refine a_if rfl (o_eq rfl rfl) (fun h43 => ?_) (fun h44 => ?_)
      · refine a_op rfl (o_mv rfl) ?_
        refine a_op rfl ((by first | exact o_fa tf37_3 rfl rfl | exact o_fap tf37_3 rfl rfl)) ?_
        refine a_op rfl ((by first | exact o_ld tg3 rfl rfl | exact o_ldp tg3 rfl rfl rfl rfl)) ?_
        refine a_if rfl (o_eq rfl rfl) (fun h45 => ?_) (fun h46 => ?_)
        · refine a_op rfl (o_pkt rfl rfl) ?_
          refine a_op rfl (o_mv rfl) ?_
          refine a_op rfl ((by first | exact o_fa tf37_4 rfl rfl | exact o_fap tf37_4 rfl rfl)) ?_
          refine a_op rfl ((by first | exact o_ld tg5 rfl rfl | exact o_ldp tg5 rfl rfl rfl rfl)) ?_
          refine a_if rfl (o_gt rfl rfl) (fun h47 => ?_) (fun h48 => ?_)
          · refine a_op rfl (o_pkt rfl rfl) ?_
            refine a_op rfl (o_mv rfl) ?_
            refine a_op rfl ((by first | exact o_fa tf37_4 rfl rfl | exact o_fap tf37_4 rfl rfl)) ?_
            refine a_op rfl ((by first | exact o_ld tg5 rfl rfl | exact o_ldp tg5 rfl rfl rfl rfl)) ?_
            refine a_op rfl (o_lt rfl rfl) ?_
            refine a_op rfl (o_pkt rfl rfl) ?_
            refine a_op rfl (o_as rfl) ?_
            refine a_nil ?_
            refine tq_n ?_
            refine awp_seq ?_
            refine w_reg (l := r25_15.toList) rfl r25_15_ok ?_
            refine a_ifb rfl (o_mv rfl) (fun h49 => ?_) (fun h50 => ?_)
            · refine a_op rfl (o_ntt rfl) ?_
              refine a_op rfl (o_mv rfl) ?_
              refine a_op rfl ((by first | exact o_ldg tg30 tn30 rfl rfl | exact o_ldpg tg30 tn30 rfl rfl rfl rfl)) ?_
              refine a_op rfl ((by first | exact o_fa tf37_0 rfl rfl | exact o_fap tf37_0 rfl rfl)) ?_
              refine a_op rfl ((by first | exact o_ld tg3 rfl rfl | exact o_ldp tg3 rfl rfl rfl rfl)) ?_
              refine a_pure rfl rfl rfl cb47 (rpoint_ok _ _ _ g1 g2 g3 _ _ (by omega) _) ?_
              refine a_if rfl (o_lt rfl rfl) (fun h51 => ?_) (fun h52 => ?_)
              · have hfn : findP pts (rules[i]'hi).pt = none := ixf_neg (by omega)
                refine a_op rfl (o_pkf rfl rfl) ?_
                refine a_nil ?_
                refine tq_n ?_
                refine w_true rfl ?_
                refine awp_seq ?_
                refine w_reg (l := r25_16.toList) rfl r25_16_ok ?_
                refine a_op rfl (o_mv rfl) ?_
                refine a_op rfl (o_as rfl) ?_
                refine a_op rfl (o_as rfl) ?_
                refine a_nil ?_
                refine tq_n ?_
                refine awp_ret ?_
                refine bq_r ?_
                refine tq_r ?_
                refine tq_r ?_
                refine bq_r ?_
                refine tq_r ?_
                refine r_tup (xs := []) rfl ⟨rfl, rfl, trivial⟩ ?_
                have hv : validF pts rules = ((i : Int), 130) := by rw [validF, if_neg (by omega), hp2]; exact vF_bad hi (by simp only [okR]; simp_all <;> omega)
                exact rs_tup ⟨rs_int (by rw [hv]), rs_int (by rw [hv]), trivial⟩
              obtain ⟨jj, hjj, hje, hfs⟩ := ixf_pos (n := (rules[i]'hi).pt) (pts := pts) (by omega)
              refine a_op rfl (o_pkf rfl rfl) ?_
              refine a_nil ?_
              refine tq_n ?_
              refine w_false rfl ?_
              refine awp_skip ?_
              refine bq_n ?_
              refine tq_n ?_
              refine w_view [(1, .sl 5 b1 (rules.map ruleAV)), (2, .ptr 0 0), (6, .raw (.int .i64 ((i : Nat) : Int)))] [.var [a1, a2, a3, .sl 8 b (pts.map ptAV)]] 1 rfl (Nat.le_of_ble_eq_true rfl) (Nat.le_of_ble_eq_true rfl) ⟨⟨_, rfl, (by first | exact .sloK (Nat.le_of_ble_eq_true rfl) | exact .ptrK (Nat.le_of_ble_eq_true rfl) | exact rs_pur (by simp) rfl)⟩, ⟨_, rfl, (by first | exact .sloK (Nat.le_of_ble_eq_true rfl) | exact .ptrK (Nat.le_of_ble_eq_true rfl) | exact rs_pur (by simp) rfl)⟩, ⟨_, rfl, (by first | exact .sloK (Nat.le_of_ble_eq_true rfl) | exact .ptrK (Nat.le_of_ble_eq_true rfl) | exact rs_pur (by simp) rfl)⟩, trivial⟩ ⟨ors_var ⟨rs_pur g1.1 rfl, rs_pur g2.1 rfl, rs_pur g3.1 rfl, rs_pur (by simp) rfl, trivial⟩, trivial⟩ ?_
              refine w_reg (l := r25_5.toList) rfl r25_5_ok ?_
              refine a_op rfl (o_mv rfl) ?_
              refine a_op rfl (o_add rfl rfl (by simp only [klo, khi]; omega)) ?_
              refine a_op rfl (o_as rfl) ?_
              refine a_nil ?_
              refine tq_n ?_
              exact ⟨i + 1, ⟨⟨by omega, hp2.trans (vF_good hi (by simp only [okR]; simp_all <;> omega))⟩, by omega⟩, ⟨(by first | exact sub_int rfl (by omega) | rfl), (by first | exact sub_int rfl (by omega) | rfl), (by first | exact sub_int rfl (by omega) | rfl), trivial⟩, rfl⟩
            refine a_op rfl (o_ntf rfl) ?_
            refine a_op rfl (o_mv rfl) ?_
            refine a_off rfl ?_
            refine a_off rfl ?_
            refine a_off rfl ?_
            refine a_off rfl ?_
            refine a_off rfl ?_
            refine a_op rfl (o_pkt rfl rfl) ?_
            refine a_nil ?_
            refine tq_n ?_
            refine w_true rfl ?_
            refine awp_seq ?_
            refine w_reg (l := r25_16.toList) rfl r25_16_ok ?_
            refine a_op rfl (o_mv rfl) ?_
            refine a_op rfl (o_as rfl) ?_
            refine a_op rfl (o_as rfl) ?_
            refine a_nil ?_
            refine tq_n ?_
            refine awp_ret ?_
            refine bq_r ?_
            refine tq_r ?_
            refine tq_r ?_
            refine bq_r ?_
            refine tq_r ?_
            refine r_tup (xs := []) rfl ⟨rfl, rfl, trivial⟩ ?_
            have hv : validF pts rules = ((i : Int), 130) := by rw [validF, if_neg (by omega), hp2]; exact vF_bad hi (by simp only [okR]; simp_all <;> omega)
            exact rs_tup ⟨rs_int (by rw [hv]), rs_int (by rw [hv]), trivial⟩
          refine a_op rfl (o_pkt rfl rfl) ?_
          refine a_op rfl (o_mv rfl) ?_
          refine a_off rfl ?_
          refine a_off rfl ?_
          refine a_off rfl ?_
          refine a_op rfl (o_pkf rfl rfl) ?_
          refine a_op rfl (o_as rfl) ?_
          refine a_nil ?_
          refine tq_n ?_
          refine awp_seq ?_
          refine w_reg (l := r25_15.toList) rfl r25_15_ok ?_
          refine a_op rfl (o_mv rfl) ?_
          refine a_op rfl (o_ntf rfl) ?_
          refine a_op rfl (o_mv rfl) ?_
          refine a_off rfl ?_
          refine a_off rfl ?_
          refine a_off rfl ?_
          refine a_off rfl ?_
          refine a_off rfl ?_
          refine a_op rfl (o_pkt rfl rfl) ?_
          refine a_nil ?_
          refine tq_n ?_
          refine w_true rfl ?_
          refine awp_seq ?_
          refine w_reg (l := r25_16.toList) rfl r25_16_ok ?_
          refine a_op rfl (o_mv rfl) ?_
          refine a_op rfl (o_as rfl) ?_
          refine a_op rfl (o_as rfl) ?_
          refine a_nil ?_
          refine tq_n ?_
          refine awp_ret ?_
          refine bq_r ?_
          refine tq_r ?_
          refine tq_r ?_
          refine bq_r ?_
          refine tq_r ?_
          refine r_tup (xs := []) rfl ⟨rfl, rfl, trivial⟩ ?_
          have hv : validF pts rules = ((i : Int), 130) := by rw [validF, if_neg (by omega), hp2]; exact vF_bad hi (by simp only [okR]; simp_all <;> omega)
          exact rs_tup ⟨rs_int (by rw [hv]), rs_int (by rw [hv]), trivial⟩
        refine a_op rfl (o_pkt rfl rfl) ?_
        refine a_op rfl (o_mv rfl) ?_
        refine a_off rfl ?_
        refine a_off rfl ?_
        refine a_off rfl ?_
        refine a_op rfl (o_pkf rfl rfl) ?_
        refine a_op rfl (o_mv rfl) ?_
        refine a_off rfl ?_
        refine a_off rfl ?_
        refine a_off rfl ?_
        refine a_op rfl (o_pkf rfl rfl) ?_
        refine a_op rfl (o_as rfl) ?_
        refine a_nil ?_
        refine tq_n ?_
        refine awp_seq ?_
        refine w_reg (l := r25_15.toList) rfl r25_15_ok ?_
        refine a_op rfl (o_mv rfl) ?_
        refine a_op rfl (o_ntf rfl) ?_
        refine a_op rfl (o_mv rfl) ?_
        refine a_off rfl ?_
        refine a_off rfl ?_
        refine a_off rfl ?_
        refine a_off rfl ?_
        refine a_off rfl ?_
        refine a_op rfl (o_pkt rfl rfl) ?_
        refine a_nil ?_
        refine tq_n ?_
        refine w_true rfl ?_
        refine awp_seq ?_
        refine w_reg (l := r25_16.toList) rfl r25_16_ok ?_
        refine a_op rfl (o_mv rfl) ?_
        refine a_op rfl (o_as rfl) ?_
        refine a_op rfl (o_as rfl) ?_
        refine a_nil ?_
        refine tq_n ?_
        refine awp_ret ?_
        refine bq_r ?_
        refine tq_r ?_
        refine tq_r ?_
        refine bq_r ?_
        refine tq_r ?_
        refine r_tup (xs := []) rfl ⟨rfl, rfl, trivial⟩ ?_
        have hv : validF pts rules = ((i : Int), 130) := by rw [validF, if_neg (by omega), hp2]; exact vF_bad hi (by simp only [okR]; simp_all <;> omega)
        exact rs_tup ⟨rs_int (by rw [hv]), rs_int (by rw [hv]), trivial⟩
      refine a_op rfl (o_mv rfl) ?_
      refine a_off rfl ?_
      refine a_off rfl ?_
      refine a_off rfl ?_
      refine a_op rfl (o_pkf rfl rfl) ?_
      refine a_op rfl (o_mv rfl) ?_
      refine a_off rfl ?_
      refine a_off rfl ?_
      refine a_off rfl ?_
      refine a_op rfl (o_pkf rfl rfl) ?_
      refine a_op rfl (o_mv rfl) ?_
      refine a_off rfl ?_
      refine a_off rfl ?_
      refine a_off rfl ?_
      refine a_op rfl (o_pkf rfl rfl) ?_
      refine a_op rfl (o_as rfl) ?_
      refine a_nil ?_
      refine tq_n ?_
      refine awp_seq ?_
      refine w_reg (l := r25_15.toList) rfl r25_15_ok ?_
      refine a_op rfl (o_mv rfl) ?_
      refine a_op rfl (o_ntf rfl) ?_
      refine a_op rfl (o_mv rfl) ?_
      refine a_off rfl ?_
      refine a_off rfl ?_
      refine a_off rfl ?_
      refine a_off rfl ?_
      refine a_off rfl ?_
      refine a_op rfl (o_pkt rfl rfl) ?_
      refine a_nil ?_
      refine tq_n ?_
      refine w_true rfl ?_
      refine awp_seq ?_
      refine w_reg (l := r25_16.toList) rfl r25_16_ok ?_
      refine a_op rfl (o_mv rfl) ?_
      refine a_op rfl (o_as rfl) ?_
      refine a_op rfl (o_as rfl) ?_
      refine a_nil ?_
      refine tq_n ?_
      refine awp_ret ?_
      refine bq_r ?_
      refine tq_r ?_
      refine tq_r ?_
      refine bq_r ?_
      refine tq_r ?_
      refine r_tup (xs := []) rfl ⟨rfl, rfl, trivial⟩ ?_
      have hv : validF pts rules = ((i : Int), 130) := by rw [validF, if_neg (by omega), hp2]; exact vF_bad hi (by simp only [okR]; simp_all <;> omega)
      exact rs_tup ⟨rs_int (by rw [hv]), rs_int (by rw [hv]), trivial⟩
    refine a_nil ?_
    refine tq_n ?_
    refine w_false rfl ?_
    refine awp_skip ?_
    refine tq_n ?_
    refine awp_seq ?_
    refine w_reg (l := r25_15.toList) rfl r25_15_ok ?_
    refine a_op rfl (o_mv rfl) ?_
    refine a_op rfl (o_ntf rfl) ?_
    refine a_op rfl (o_mv rfl) ?_
    refine a_off rfl ?_
    refine a_off rfl ?_
    refine a_off rfl ?_
    refine a_off rfl ?_
    refine a_off rfl ?_
    refine a_op rfl (o_pkt rfl rfl) ?_
    refine a_nil ?_
    refine tq_n ?_
    refine w_true rfl ?_
    refine awp_seq ?_
    refine w_reg (l := r25_16.toList) rfl r25_16_ok ?_
    refine a_op rfl (o_mv rfl) ?_
    refine a_op rfl (o_as rfl) ?_
    refine a_op rfl (o_as rfl) ?_
    refine a_nil ?_
    refine tq_n ?_
    refine awp_ret ?_
    refine bq_r ?_
    refine tq_r ?_
    refine tq_r ?_
    refine bq_r ?_
    refine tq_r ?_
    refine r_tup (xs := []) rfl ⟨rfl, rfl, trivial⟩ ?_
    have hv : validF pts rules = ((i : Int), 130) := by rw [validF, if_neg (by omega), hp2]; exact vF_bad hi (by simp only [okR]; simp_all <;> omega)
    exact rs_tup ⟨rs_int (by rw [hv]), rs_int (by rw [hv]), trivial⟩
  refine a_nil ?_
  refine tq_n ?_
  refine w_false rfl ?_
  refine awp_exit ?_
  refine tq_x ?_
  refine tq_x ?_
  refine bq_hit ?_
  refine tq_n ?_
  refine awp_seq ?_
  refine w_reg (l := r25_17.toList) rfl r25_17_ok ?_
  refine a_op rfl (o_as rfl) ?_
  refine a_op rfl (o_as rfl) ?_
  refine a_nil ?_
  refine tq_n ?_
  refine awp_ret ?_
  refine r_tup (xs := []) rfl ⟨rfl, rfl, trivial⟩ ?_
  have hv : validF pts rules = (0, 0) := by rw [validF, if_neg (by omega), hp2, List.drop_of_length_le (by omega)]; rfl
  exact rs_tup ⟨rs_int (by rw [hv]), rs_int (by rw [hv]), trivial⟩
end Go.Ab.D
