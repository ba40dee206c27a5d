/- What functions of this program compute, and the laws of what they compute, under the bounds on lengths that each contract states. -/
import Derived.Test.YtghoaglolhdoeaaDoorD8
set_option linter.unusedSimpArgs false
set_option linter.unusedVariables false
namespace Go.Ab.D
open Go Go.Ab Go.Proofs
def yd (n : Int) : Bool := decide (yrE 0 n n = 0)
def okR (pts : List PtR) (x : RuleR) : Bool :=
  if x.kind = 1 then (findP pts x.pt).isSome && yd x.frm && yd x.to && decide (x.days = 0)
  else if x.kind = 2 then (findP pts x.pt).isSome && decide (x.frm ≥ 0) && decide (x.frm ≤ x.to) && decide (x.to ≤ 730484) && decide (x.days = 0)
  else if x.kind = 3 then (findP pts x.pt).isSome && decide (x.frm = 0) && decide (x.to = 0) && decide (x.days ≥ 1) && decide (x.days ≤ 127)
  else false
def vF (pts : List PtR) : List RuleR → Int → Int × Int
  | [], _ => (0, 0)
  | x :: t, i => if okR pts x = true then vF pts t (i + 1) else (i, 130)
def validF (pts : List PtR) (rules : List RuleR) : Int × Int := if 2000 < rules.length then (0, 5) else vF pts rules 0
theorem vF_good {pts : List PtR} {rules : List RuleR} {i : Nat} (h : i < rules.length) (hg : okR pts rules[i] = true) : vF pts (rules.drop i) i = vF pts (rules.drop (i + 1)) (i + 1 : Nat) := by
  rw [List.drop_eq_getElem_cons h]; simp only [vF, hg, if_true]; rfl
theorem vF_bad {pts : List PtR} {rules : List RuleR} {i : Nat} (h : i < rules.length) (hg : okR pts rules[i] = false) : vF pts (rules.drop i) i = ((i : Int), 130) := by
  rw [List.drop_eq_getElem_cons h]; simp only [vF, hg]; rfl

noncomputable def r48_0 : Array Oper := opsAt Tryd.f48 [0]
theorem r48_0_ok : dstOk 13 r48_0.toList = true ∧ r48_0.toList.all (fun o => noDefer o.op) = true := by decide +kernel
noncomputable def r48_1 : Array Oper := opsAt Tryd.f48 [1, 0]
theorem r48_1_ok : dstOk 13 r48_1.toList = true ∧ r48_1.toList.all (fun o => noDefer o.op) = true := by decide +kernel
noncomputable def r48_2 : Array Oper := opsAt Tryd.f48 [1, 1, 0]
theorem r48_2_ok : dstOk 13 r48_2.toList = true ∧ r48_2.toList.all (fun o => noDefer o.op) = true := by decide +kernel
noncomputable def c48 : Code := (.seq (.region 0 r48_0 false) (.seq (.region 1 r48_1 false) (.seq (.region 2 r48_2 false) .ret)))
theorem body48 : Tryd.f48.body = some c48 := by kernel_rfl
theorem yr_ok (n : Int) (hn : -9223372036854775808 ≤ n ∧ n ≤ 9223372036854775807) : PureCall Tryd.prog GL 48 [.raw (.int .i64 n)] (.raw (.bool (yd n))) := by
  refine pure_of_body Tryd.func48 body48 (Nat.le_of_ble_eq_true rfl) (by simp) (by simp) ?_
  refine w_keep [(0, .raw (.int .i64 n))] ⟨rfl, trivial⟩ ?_
  unfold c48
  refine awp_seq ?_
  refine w_reg (l := r48_0.toList) rfl r48_0_ok ?_
  refine a_op rfl (o_as rfl) ?_
  refine a_nil ?_
  refine tq_n ?_
  refine awp_seq ?_
  refine w_reg (l := r48_1.toList) rfl r48_1_ok ?_
  refine a_op rfl (o_mv rfl) ?_
  refine a_op rfl (o_mv rfl) ?_
  refine a_pure rfl rfl rfl cb62 (yearly_ok _ _ _ hn hn) ?_
  refine a_op rfl (o_mv rfl) ?_
  refine a_op rfl (o_ex rfl rfl) ?_
  refine a_op rfl (o_ex rfl rfl) ?_
  refine a_op rfl (o_as rfl) ?_
  refine a_op rfl (o_as rfl) ?_
  refine a_nil ?_
  refine tq_n ?_
  refine awp_seq ?_
  refine w_reg (l := r48_2.toList) rfl r48_2_ok ?_
  refine a_op rfl (o_mv rfl) ?_
  refine a_op rfl (o_eq rfl rfl) ?_
  refine a_op rfl (o_as rfl) ?_
  refine a_nil ?_
  refine tq_n ?_
  refine awp_ret ?_
  refine r_one rfl ⟨rfl, trivial⟩ ?_
  exact rs_pur (by simp) (by simp [yd])
noncomputable def r26_0 : Array Oper := opsAt Tryd.f26 [0]
theorem r26_0_ok : dstOk 99 r26_0.toList = true ∧ r26_0.toList.all (fun o => noDefer o.op) = true := by decide +kernel
noncomputable def r26_1 : Array Oper := opsAt Tryd.f26 [1, 0, 0]
theorem r26_1_ok : dstOk 99 r26_1.toList = true ∧ r26_1.toList.all (fun o => noDefer o.op) = true := by decide +kernel
noncomputable def r26_2 : Array Oper := opsAt Tryd.f26 [1, 0, 1, 0, 0]
theorem r26_2_ok : dstOk 99 r26_2.toList = true ∧ r26_2.toList.all (fun o => noDefer o.op) = true := by decide +kernel
noncomputable def r26_3 : Array Oper := opsAt Tryd.f26 [1, 1, 0, 0]
theorem r26_3_ok : dstOk 99 r26_3.toList = true ∧ r26_3.toList.all (fun o => noDefer o.op) = true := by decide +kernel
noncomputable def r26_4 : Array Oper := opsAt Tryd.f26 [1, 1, 0, 1, 0, 0, 0]
theorem r26_4_ok : dstOk 99 r26_4.toList = true ∧ r26_4.toList.all (fun o => noDefer o.op) = true := by decide +kernel
noncomputable def r26_5 : Array Oper := opsAt Tryd.f26 [1, 1, 0, 1, 0, 0, 1, 1, 0, 0, 0]
theorem r26_5_ok : dstOk 99 r26_5.toList = true ∧ r26_5.toList.all (fun o => noDefer o.op) = true := by decide +kernel
noncomputable def r26_6 : Array Oper := opsAt Tryd.f26 [1, 1, 0, 1, 0, 0, 1, 1, 0, 0, 1, 0]
theorem r26_6_ok : dstOk 99 r26_6.toList = true ∧ r26_6.toList.all (fun o => noDefer o.op) = true := by decide +kernel
noncomputable def r26_7 : Array Oper := opsAt Tryd.f26 [1, 1, 0, 1, 0, 0, 1, 1, 0, 0, 1, 1, 0, 0]
theorem r26_7_ok : dstOk 99 r26_7.toList = true ∧ r26_7.toList.all (fun o => noDefer o.op) = true := by decide +kernel
noncomputable def r26_9 : Array Oper := opsAt Tryd.f26 [1, 1, 0, 1, 0, 0, 1, 1, 0, 0, 1, 1, 0, 1, 0, 0]
theorem r26_9_ok : dstOk 99 r26_9.toList = true ∧ r26_9.toList.all (fun o => noDefer o.op) = true := by decide +kernel
noncomputable def r26_10 : Array Oper := opsAt Tryd.f26 [1, 1, 0, 1, 0, 0, 1, 1, 0, 0, 1, 1, 0, 1, 0, 1, 0]
theorem r26_10_ok : dstOk 99 r26_10.toList = true ∧ r26_10.toList.all (fun o => noDefer o.op) = true := by decide +kernel
noncomputable def r26_11 : Array Oper := opsAt Tryd.f26 [1, 1, 0, 1, 0, 0, 1, 1, 0, 0, 1, 1, 0, 1, 0, 1, 1, 0]
theorem r26_11_ok : dstOk 99 r26_11.toList = true ∧ r26_11.toList.all (fun o => noDefer o.op) = true := by decide +kernel
noncomputable def r26_12 : Array Oper := opsAt Tryd.f26 [1, 1, 0, 1, 0, 0, 1, 1, 0, 0, 1, 1, 0, 1, 0, 1, 1, 1, 0]
theorem r26_12_ok : dstOk 99 r26_12.toList = true ∧ r26_12.toList.all (fun o => noDefer o.op) = true := by decide +kernel
noncomputable def r26_13 : Array Oper := opsAt Tryd.f26 [1, 1, 0, 1, 0, 0, 1, 1, 0, 0, 1, 1, 0, 1, 0, 1, 1, 1, 1, 0]
theorem r26_13_ok : dstOk 99 r26_13.toList = true ∧ r26_13.toList.all (fun o => noDefer o.op) = true := by decide +kernel
noncomputable def r26_14 : Array Oper := opsAt Tryd.f26 [1, 1, 0, 1, 0, 0, 1, 1, 0, 0, 1, 1, 0, 1, 0, 1, 1, 1, 1, 1, 0]
theorem r26_14_ok : dstOk 99 r26_14.toList = true ∧ r26_14.toList.all (fun o => noDefer o.op) = true := by decide +kernel
noncomputable def r26_8 : Array Oper := opsAt Tryd.f26 [1, 1, 0, 1, 0, 0, 1, 1, 0, 0, 1, 1, 0, 1, 0, 1, 1, 1, 1, 1, 1]
theorem r26_8_ok : dstOk 99 r26_8.toList = true ∧ r26_8.toList.all (fun o => noDefer o.op) = true := by decide +kernel
noncomputable def r26_15 : Array Oper := opsAt Tryd.f26 [1, 1, 0, 1, 0, 0, 1, 1, 0, 0, 1, 1, 1, 0]
theorem r26_15_ok : dstOk 99 r26_15.toList = true ∧ r26_15.toList.all (fun o => noDefer o.op) = true := by decide +kernel
noncomputable def r26_16 : Array Oper := opsAt Tryd.f26 [1, 1, 0, 1, 0, 0, 1, 1, 0, 0, 1, 1, 1, 1, 0, 0]
theorem r26_16_ok : dstOk 99 r26_16.toList = true ∧ r26_16.toList.all (fun o => noDefer o.op) = true := by decide +kernel
noncomputable def r26_17 : Array Oper := opsAt Tryd.f26 [1, 1, 0, 1, 0, 0, 1, 1, 1]
theorem r26_17_ok : dstOk 99 r26_17.toList = true ∧ r26_17.toList.all (fun o => noDefer o.op) = true := by decide +kernel
noncomputable def b26_0 : Code := (.seq (.region 4 r26_4 false) (.seq (.cond (.tmp 16) .skip (.exit 0)) (.seq (.block 1 (.seq (.region 5 r26_5 false) (.seq (.region 6 r26_6 false) (.seq (.seq (.region 7 r26_7 false) (.block 2 (.seq (.region 9 r26_9 false) (.cond (.tmp 29) (.region 10 r26_10 false) (.seq (.region 11 r26_11 false) (.cond (.tmp 47) (.region 12 r26_12 false) (.seq (.region 13 r26_13 false) (.cond (.tmp 72) (.region 14 r26_14 false) (.region 8 r26_8 false))))))))) (.seq (.region 15 r26_15 false) (.cond (.tmp 96) (.seq (.region 16 r26_16 false) .ret) .skip)))))) (.region 17 r26_17 false))))
noncomputable def r26_18 : Array Oper := opsAt Tryd.f26 [1, 1, 1, 0]
theorem r26_18_ok : dstOk 99 r26_18.toList = true ∧ r26_18.toList.all (fun o => noDefer o.op) = true := by decide +kernel
noncomputable def c26 : Code := (.seq (.region 0 r26_0 false) (.seq (.seq (.region 1 r26_1 false) (.cond (.tmp 12) (.seq (.region 2 r26_2 false) .ret) .skip)) (.seq (.seq (.region 3 r26_3 false) (.block 0 (.loop b26_0))) (.seq (.region 18 r26_18 false) .ret))))
theorem body26 : Tryd.f26.body = some c26 := by kernel_rfl
set_option maxHeartbeats 4000000 in
theorem Valid_ok (a1 a2 a3 : AV) (g1 : Cel a1) (g2 : Cel a2) (g3 : Cel a3) (b : Bool) (pts : List PtR) (hl : pts.length ≤ 4611686018427387904) (b1 : Bool) (rules : List RuleR) (hl1 : rules.length ≤ 9223372036854775807) (hx1 : ∀ x ∈ rules, x.ok) : PureCall Tryd.prog GL 26 [refAV a1 a2 a3 b pts, .sl 5 b1 (rules.map ruleAV)] (.tup [.raw (.int .i64 (validF pts rules).1), .raw (.int .i64 (validF pts rules).2)]) := by
  refine pure_of_body Tryd.func26 body26 (Nat.le_of_ble_eq_true rfl) (by simp [pur_ref g1 g2 g3]) (by simp) ?_
  refine w_keep [(0, refAV a1 a2 a3 b pts), (1, .sl 5 b1 (rules.map ruleAV))] ⟨rfl, rfl, trivial⟩ ?_
  unfold c26
  skip
  refine awp_seq ?_
  refine w_reg (l := r26_0.toList) rfl r26_0_ok ?_
  refine a_op rfl (o_box (N := 0) rfl (by first | exact ref_good g1 g2 g3 | rfl) rfl rfl) ?_
  refine a_op rfl (o_as rfl) ?_
  refine a_op rfl (o_as rfl) ?_
  refine a_nil ?_
  refine tq_n ?_
  refine awp_seq ?_
  refine awp_seq ?_
  refine w_reg (l := r26_1.toList) rfl r26_1_ok ?_
  refine a_op rfl (o_mv rfl) ?_
  refine a_op rfl (o_len rfl rfl (by first | exact List.length_map .. | rfl) tl32) ?_
  refine a_if rfl (o_gt rfl rfl) (fun h1 => ?_) (fun h2 => ?_)
  · refine a_nil ?_
    refine tq_n ?_
    refine w_true rfl ?_
    refine awp_seq ?_
    refine w_reg (l := r26_2.toList) rfl r26_2_ok ?_
    refine a_op rfl (o_as rfl) ?_
    refine a_op rfl (o_as rfl) ?_
    refine a_nil ?_
    refine tq_n ?_
    refine awp_ret ?_
    refine tq_r ?_
    refine r_tup (xs := []) rfl ⟨rfl, rfl, trivial⟩ ?_
    have hv : validF pts rules = (0, 5) := by rw [validF, if_pos (by omega)]
    exact rs_tup ⟨rs_int (by rw [hv]), rs_int (by rw [hv]), trivial⟩
  refine a_nil ?_
  refine tq_n ?_
  refine w_false rfl ?_
  refine awp_skip ?_
  refine tq_n ?_
  refine awp_seq ?_
  refine awp_seq ?_
  refine w_reg (l := r26_3.toList) rfl r26_3_ok ?_
  refine a_op rfl (o_mv rfl) ?_
  refine a_op rfl (o_len rfl rfl (by first | exact List.length_map .. | rfl) tl32) ?_
  refine a_op rfl (o_mv rfl) ?_
  refine a_nil ?_
  refine tq_n ?_
  refine awp_block ?_
  refine w_loop (fun i : Nat => i ≤ rules.length ∧ vF pts rules 0 = vF pts (rules.drop i) i) (fun i => [(2, .ptr 0 0), (13, .sl 5 b1 (rules.map ruleAV)), (14, .raw (.int .i64 ((rules.length : Nat) : Int))), (15, .raw (.int .i64 ((i : Nat) : Int)))]) (fun _ => [.var [a1, a2, a3, .sl 8 b (pts.map ptAV)]]) (fun i => rules.length - i) (0) ⟨by simp, by simp⟩ ⟨(by first | exact sub_int rfl (by omega) | rfl), (by first | exact sub_int rfl (by omega) | rfl), (by first | exact sub_int rfl (by omega) | rfl), (by first | exact sub_int rfl (by omega) | rfl), trivial⟩ rfl ?_
  intro i ⟨hp1, hp2⟩
  unfold b26_0
  refine awp_seq ?_
  refine w_reg (l := r26_4.toList) rfl r26_4_ok ?_
  refine a_if rfl (o_lt rfl rfl) (fun h3 => ?_) (fun h4 => ?_)
  · refine a_nil ?_
    refine tq_n ?_
    refine awp_seq ?_
    refine w_true rfl ?_
    refine awp_skip ?_
    refine tq_n ?_
    refine awp_seq ?_
    refine awp_block ?_
    refine awp_seq ?_
    have hi : i < rules.length := by omega
    have hxi := hx1 _ (List.getElem_mem hi)
    refine w_reg (l := r26_5.toList) rfl r26_5_ok ?_
    refine a_op rfl (o_mv rfl) ?_
    refine a_op rfl (o_ix te32 tn37 rfl rfl rfl (ixm _ _ _ hi)) ?_
    refine a_op rfl ((by first | exact o_ldg tg37 tn37 rfl rfl | exact o_ldpg tg37 tn37 rfl rfl rfl rfl)) ?_
    refine a_op rfl (o_al (N := 1) tz37 rfl rfl rfl) ?_
    refine a_op rfl (o_as rfl) ?_
    refine a_op0 rfl (o_st (N := 4) tn37 rfl rfl rfl rfl rfl) ?_
    refine a_nil ?_
    refine tq_n ?_
    refine awp_seq ?_
    refine w_reg (l := r26_6.toList) rfl r26_6_ok ?_
    refine a_op rfl ((by first | exact o_ldg tg30 tn30 rfl rfl | exact o_ldpg tg30 tn30 rfl rfl rfl rfl)) ?_
    refine a_op rfl ((by first | exact o_fa tf37_0 rfl rfl | exact o_fap tf37_0 rfl rfl)) ?_
    refine a_op rfl ((by first | exact o_ld tg3 rfl rfl | exact o_ldp tg3 rfl rfl rfl rfl)) ?_
    refine a_pure rfl rfl rfl cb34 (point_ok _ _ _ g1 g2 g3 _ _ (by omega) _) ?_
    refine a_op rfl (o_mv rfl) ?_
    refine a_op rfl (o_ex rfl rfl) ?_
    refine a_op rfl (o_ex rfl rfl) ?_
    refine a_op rfl (o_al (N := 2) tz39 rfl rfl rfl) ?_
    refine a_op0 rfl (o_st (N := 7) tn39 rfl rfl rfl rfl rfl) ?_
    refine a_op rfl (o_as rfl) ?_
    refine a_nil ?_
    refine tq_n ?_
    refine awp_seq ?_
    refine awp_seq ?_
    refine w_reg (l := r26_7.toList) rfl r26_7_ok ?_
    refine a_op rfl ((by first | exact o_fa tf37_1 rfl rfl | exact o_fap tf37_1 rfl rfl)) ?_
    refine a_op rfl ((by first | exact o_ld tg5 rfl rfl | exact o_ldp tg5 rfl rfl rfl rfl)) ?_
    refine a_nil ?_
    refine tq_n ?_
    refine awp_block ?_
    refine awp_seq ?_
    refine w_reg (l := r26_9.toList) rfl r26_9_ok ?_
    refine a_if rfl (o_eq rfl rfl) (fun h5 => ?_) (fun h6 => ?_)
    · refine a_op rfl (o_as rfl) ?_
      refine a_nil ?_
      refine tq_n ?_
      refine w_true rfl ?_
      refine w_reg (l := r26_10.toList) rfl r26_10_ok ?_
      refine a_ifb rfl (o_mv rfl) (fun h7 => ?_) (fun h8 => ?_)
      · refine a_op rfl (o_mv rfl) ?_
        refine a_op rfl ((by first | exact o_fa tf37_2 rfl rfl | exact o_fap tf37_2 rfl rfl)) ?_
        refine a_op rfl ((by first | exact o_ld tg3 rfl rfl | exact o_ldp tg3 rfl rfl rfl rfl)) ?_
        refine a_pureb rfl rfl rfl cb48 (yr_ok _ (by first | exact hxi.1 | exact hxi.2.1)) (fun h9 => ?_) (fun h10 => ?_)
        · refine a_op rfl (o_pkt rfl rfl) ?_
          refine a_op rfl (o_mv rfl) ?_
          refine a_op rfl ((by first | exact o_fa tf37_3 rfl rfl | exact o_fap tf37_3 rfl rfl)) ?_
          refine a_op rfl ((by first | exact o_ld tg3 rfl rfl | exact o_ldp tg3 rfl rfl rfl rfl)) ?_
          refine a_pureb rfl rfl rfl cb48 (yr_ok _ (by first | exact hxi.1 | exact hxi.2.1)) (fun h11 => ?_) (fun h12 => ?_)
          · refine a_op rfl (o_pkt rfl rfl) ?_
            refine a_op rfl (o_mv rfl) ?_
            refine a_op rfl ((by first | exact o_fa tf37_4 rfl rfl | exact o_fap tf37_4 rfl rfl)) ?_
            refine a_op rfl ((by first | exact o_ld tg5 rfl rfl | exact o_ldp tg5 rfl rfl rfl rfl)) ?_
            refine a_op rfl (o_eq rfl rfl) ?_
            refine a_op rfl (o_pkt rfl rfl) ?_
            refine a_ifb rfl (o_as rfl) (fun h13 => ?_) (fun h14 => ?_)
            · refine a_nil ?_
              refine bq_n ?_
              refine tq_n ?_
              refine awp_seq ?_
              refine w_reg (l := r26_15.toList) rfl r26_15_ok ?_
              refine a_op rfl (o_mv rfl) ?_
              refine a_op rfl (o_ntt rfl) ?_
              refine a_nil ?_
              refine tq_n ?_
              refine w_false rfl ?_
              refine awp_skip ?_
              refine bq_n ?_
              refine tq_n ?_
              refine w_view [(2, .ptr 0 0), (13, .sl 5 b1 (rules.map ruleAV)), (14, .raw (.int .i64 ((rules.length : Nat) : Int))), (15, .raw (.int .i64 ((i : Nat) : Int)))] [.var [a1, a2, a3, .sl 8 b (pts.map ptAV)]] 1 rfl (Nat.le_of_ble_eq_true rfl) (Nat.le_of_ble_eq_true rfl) ⟨⟨_, rfl, (by first | exact .sloK (Nat.le_of_ble_eq_true rfl) | exact .ptrK (Nat.le_of_ble_eq_true rfl) | exact rs_pur (by simp) rfl)⟩, ⟨_, rfl, (by first | exact .sloK (Nat.le_of_ble_eq_true rfl) | exact .ptrK (Nat.le_of_ble_eq_true rfl) | exact rs_pur (by simp) rfl)⟩, ⟨_, rfl, (by first | exact .sloK (Nat.le_of_ble_eq_true rfl) | exact .ptrK (Nat.le_of_ble_eq_true rfl) | exact rs_pur (by simp) rfl)⟩, ⟨_, rfl, (by first | exact .sloK (Nat.le_of_ble_eq_true rfl) | exact .ptrK (Nat.le_of_ble_eq_true rfl) | exact rs_pur (by simp) rfl)⟩, trivial⟩ ⟨ors_var ⟨rs_pur g1.1 rfl, rs_pur g2.1 rfl, rs_pur g3.1 rfl, rs_pur (by simp) rfl, trivial⟩, trivial⟩ ?_
              refine w_reg (l := r26_17.toList) rfl r26_17_ok ?_
              refine a_op rfl (o_add rfl rfl (by simp only [klo, khi]; omega)) ?_
              refine a_op rfl (o_mv rfl) ?_
              refine a_nil ?_
              refine tq_n ?_
              exact ⟨i + 1, ⟨⟨by omega, hp2.trans (vF_good hi (by simp [okR, *]))⟩, by omega⟩, ⟨(by first | exact sub_int rfl (by omega) | rfl), (by first | exact sub_int rfl (by omega) | rfl), (by first | exact sub_int rfl (by omega) | rfl), (by first | exact sub_int rfl (by omega) | rfl), trivial⟩, rfl⟩
            refine a_nil ?_
            refine bq_n ?_
            refine tq_n ?_
            refine awp_seq ?_
            refine w_reg (l := r26_15.toList) rfl r26_15_ok ?_
            refine a_op rfl (o_mv rfl) ?_
            refine a_op rfl (o_ntf rfl) ?_
            refine a_nil ?_
            refine tq_n ?_
            refine w_true rfl ?_
            refine awp_seq ?_
            refine w_reg (l := r26_16.toList) rfl r26_16_ok ?_
            refine a_op rfl (o_mv rfl) ?_
            refine a_op rfl (o_as rfl) ?_
            refine a_op rfl (o_as rfl) ?_
            refine a_nil ?_
            refine tq_n ?_
            refine awp_ret ?_
            refine bq_r ?_
            refine tq_r ?_
            refine tq_r ?_
            refine bq_r ?_
            refine tq_r ?_
            refine r_tup (xs := []) rfl ⟨rfl, rfl, trivial⟩ ?_
            have hv : validF pts rules = ((i : Int), 130) := by rw [validF, if_neg (by omega), hp2]; exact vF_bad hi (by simp [okR, *])
            exact rs_tup ⟨rs_int (by rw [hv]), rs_int (by rw [hv]), trivial⟩
          refine a_op rfl (o_pkt rfl rfl) ?_
          refine a_op rfl (o_mv rfl) ?_
          refine a_off rfl ?_
          refine a_off rfl ?_
          refine a_off rfl ?_
          refine a_op rfl (o_pkf rfl rfl) ?_
          refine a_op rfl (o_as rfl) ?_
          refine a_nil ?_
          refine bq_n ?_
          refine tq_n ?_
          refine awp_seq ?_
          refine w_reg (l := r26_15.toList) rfl r26_15_ok ?_
          refine a_op rfl (o_mv rfl) ?_
          refine a_op rfl (o_ntf rfl) ?_
          refine a_nil ?_
          refine tq_n ?_
          refine w_true rfl ?_
          refine awp_seq ?_
          refine w_reg (l := r26_16.toList) rfl r26_16_ok ?_
          refine a_op rfl (o_mv rfl) ?_
          refine a_op rfl (o_as rfl) ?_
          refine a_op rfl (o_as rfl) ?_
          refine a_nil ?_
          refine tq_n ?_
          refine awp_ret ?_
          refine bq_r ?_
          refine tq_r ?_
          refine tq_r ?_
          refine bq_r ?_
          refine tq_r ?_
          refine r_tup (xs := []) rfl ⟨rfl, rfl, trivial⟩ ?_
          have hv : validF pts rules = ((i : Int), 130) := by rw [validF, if_neg (by omega), hp2]; exact vF_bad hi (by simp [okR, *])
          exact rs_tup ⟨rs_int (by rw [hv]), rs_int (by rw [hv]), trivial⟩
        refine a_op rfl (o_pkt rfl rfl) ?_
        refine a_op rfl (o_mv rfl) ?_
        refine a_off rfl ?_
        refine a_off rfl ?_
        refine a_off rfl ?_
        refine a_op rfl (o_pkf rfl rfl) ?_
        refine a_op rfl (o_mv rfl) ?_
        refine a_off rfl ?_
        refine a_off rfl ?_
        refine a_off rfl ?_
        refine a_op rfl (o_pkf rfl rfl) ?_
        refine a_op rfl (o_as rfl) ?_
        refine a_nil ?_
        refine bq_n ?_
        refine tq_n ?_
        refine awp_seq ?_
        refine w_reg (l := r26_15.toList) rfl r26_15_ok ?_
        refine a_op rfl (o_mv rfl) ?_
        refine a_op rfl (o_ntf rfl) ?_
        refine a_nil ?_
        refine tq_n ?_
        refine w_true rfl ?_
        refine awp_seq ?_
        refine w_reg (l := r26_16.toList) rfl r26_16_ok ?_
        refine a_op rfl (o_mv rfl) ?_
        refine a_op rfl (o_as rfl) ?_
        refine a_op rfl (o_as rfl) ?_
        refine a_nil ?_
        refine tq_n ?_
        refine awp_ret ?_
        refine bq_r ?_
        refine tq_r ?_
        refine tq_r ?_
        refine bq_r ?_
        refine tq_r ?_
        refine r_tup (xs := []) rfl ⟨rfl, rfl, trivial⟩ ?_
        have hv : validF pts rules = ((i : Int), 130) := by rw [validF, if_neg (by omega), hp2]; exact vF_bad hi (by simp [okR, *])
        exact rs_tup ⟨rs_int (by rw [hv]), rs_int (by rw [hv]), trivial⟩
      refine a_op rfl (o_mv rfl) ?_
      refine a_off rfl ?_
      refine a_off rfl ?_
      refine a_off rfl ?_
      refine a_op rfl (o_pkf rfl rfl) ?_
      refine a_op rfl (o_mv rfl) ?_
      refine a_off rfl ?_
      refine a_off rfl ?_
      refine a_off rfl ?_
      refine a_op rfl (o_pkf rfl rfl) ?_
      refine a_op rfl (o_mv rfl) ?_
      refine a_off rfl ?_
      refine a_off rfl ?_
      refine a_off rfl ?_
      refine a_op rfl (o_pkf rfl rfl) ?_
      refine a_op rfl (o_as rfl) ?_
      refine a_nil ?_
      refine bq_n ?_
      refine tq_n ?_
      refine awp_seq ?_
      refine w_reg (l := r26_15.toList) rfl r26_15_ok ?_
      refine a_op rfl (o_mv rfl) ?_
      refine a_op rfl (o_ntf rfl) ?_
      refine a_nil ?_
      refine tq_n ?_
      refine w_true rfl ?_
      refine awp_seq ?_
      refine w_reg (l := r26_16.toList) rfl r26_16_ok ?_
      refine a_op rfl (o_mv rfl) ?_
      refine a_op rfl (o_as rfl) ?_
      refine a_op rfl (o_as rfl) ?_
      refine a_nil ?_
      refine tq_n ?_
      refine awp_ret ?_
      refine bq_r ?_
      refine tq_r ?_
      refine tq_r ?_
      refine bq_r ?_
      refine tq_r ?_
      refine r_tup (xs := []) rfl ⟨rfl, rfl, trivial⟩ ?_
      have hv : validF pts rules = ((i : Int), 130) := by rw [validF, if_neg (by omega), hp2]; exact vF_bad hi (by simp [okR, *])
      exact rs_tup ⟨rs_int (by rw [hv]), rs_int (by rw [hv]), trivial⟩
    refine a_op rfl (o_as rfl) ?_
    refine a_nil ?_
    refine tq_n ?_
    refine w_false rfl ?_
    refine awp_seq ?_
    refine w_reg (l := r26_11.toList) rfl r26_11_ok ?_
    refine a_if rfl (o_eq rfl rfl) (fun h15 => ?_) (fun h16 => ?_)
    · refine a_op rfl (o_as rfl) ?_
      refine a_nil ?_
      refine tq_n ?_
      refine w_true rfl ?_
      refine w_reg (l := r26_12.toList) rfl r26_12_ok ?_
      refine a_ifb rfl (o_mv rfl) (fun h17 => ?_) (fun h18 => ?_)
      · refine a_op rfl (o_mv rfl) ?_
        refine a_op rfl ((by first | exact o_fa tf37_2 rfl rfl | exact o_fap tf37_2 rfl rfl)) ?_
        refine a_op rfl ((by first | exact o_ld tg3 rfl rfl | exact o_ldp tg3 rfl rfl rfl rfl)) ?_
        refine a_if rfl (o_ge rfl rfl) (fun h19 => ?_) (fun h20 => ?_)
        · refine a_op rfl (o_pkt rfl rfl) ?_
          refine a_op rfl (o_mv rfl) ?_
          refine a_op rfl ((by first | exact o_fa tf37_2 rfl rfl | exact o_fap tf37_2 rfl rfl)) ?_
          refine a_op rfl ((by first | exact o_ld tg3 rfl rfl | exact o_ldp tg3 rfl rfl rfl rfl)) ?_
          refine a_op rfl ((by first | exact o_fa tf37_3 rfl rfl | exact o_fap tf37_3 rfl rfl)) ?_
          refine a_op rfl ((by first | exact o_ld tg3 rfl rfl | exact o_ldp tg3 rfl rfl rfl rfl)) ?_
          refine a_if rfl (o_le rfl rfl) (fun h21 => ?_) (fun h22 => ?_)
          · refine a_op rfl (o_pkt rfl rfl) ?_
            refine a_op rfl (o_mv rfl) ?_
            refine a_op rfl ((by first | exact o_fa tf37_3 rfl rfl | exact o_fap tf37_3 rfl rfl)) ?_
            refine a_op rfl ((by first | exact o_ld tg3 rfl rfl | exact o_ldp tg3 rfl rfl rfl rfl)) ?_
            refine a_if rfl (o_le rfl rfl) (fun h23 => ?_) (fun h24 => ?_)
            · refine a_op rfl (o_pkt rfl rfl) ?_
              refine a_op rfl (o_mv rfl) ?_
              refine a_op rfl ((by first | exact o_fa tf37_4 rfl rfl | exact o_fap tf37_4 rfl rfl)) ?_
              refine a_op rfl ((by first | exact o_ld tg5 rfl rfl | exact o_ldp tg5 rfl rfl rfl rfl)) ?_
              refine a_op rfl (o_eq rfl rfl) ?_
              refine a_op rfl (o_pkt rfl rfl) ?_
              refine a_ifb rfl (o_as rfl) (fun h25 => ?_) (fun h26 => ?_)
              · refine a_nil ?_
                refine bq_n ?_
                refine tq_n ?_
                refine awp_seq ?_
                refine w_reg (l := r26_15.toList) rfl r26_15_ok ?_
                refine a_op rfl (o_mv rfl) ?_
                refine a_op rfl (o_ntt rfl) ?_
                refine a_nil ?_
                refine tq_n ?_
                refine w_false rfl ?_
                refine awp_skip ?_
                refine bq_n ?_
                refine tq_n ?_
                refine w_view [(2, .ptr 0 0), (13, .sl 5 b1 (rules.map ruleAV)), (14, .raw (.int .i64 ((rules.length : Nat) : Int))), (15, .raw (.int .i64 ((i : Nat) : Int)))] [.var [a1, a2, a3, .sl 8 b (pts.map ptAV)]] 1 rfl (Nat.le_of_ble_eq_true rfl) (Nat.le_of_ble_eq_true rfl) ⟨⟨_, rfl, (by first | exact .sloK (Nat.le_of_ble_eq_true rfl) | exact .ptrK (Nat.le_of_ble_eq_true rfl) | exact rs_pur (by simp) rfl)⟩, ⟨_, rfl, (by first | exact .sloK (Nat.le_of_ble_eq_true rfl) | exact .ptrK (Nat.le_of_ble_eq_true rfl) | exact rs_pur (by simp) rfl)⟩, ⟨_, rfl, (by first | exact .sloK (Nat.le_of_ble_eq_true rfl) | exact .ptrK (Nat.le_of_ble_eq_true rfl) | exact rs_pur (by simp) rfl)⟩, ⟨_, rfl, (by first | exact .sloK (Nat.le_of_ble_eq_true rfl) | exact .ptrK (Nat.le_of_ble_eq_true rfl) | exact rs_pur (by simp) rfl)⟩, trivial⟩ ⟨ors_var ⟨rs_pur g1.1 rfl, rs_pur g2.1 rfl, rs_pur g3.1 rfl, rs_pur (by simp) rfl, trivial⟩, trivial⟩ ?_
                refine w_reg (l := r26_17.toList) rfl r26_17_ok ?_
                refine a_op rfl (o_add rfl rfl (by simp only [klo, khi]; omega)) ?_
                refine a_op rfl (o_mv rfl) ?_
                refine a_nil ?_
                refine tq_n ?_
                exact ⟨i + 1, ⟨⟨by omega, hp2.trans (vF_good hi (by simp [okR, *]))⟩, by omega⟩, ⟨(by first | exact sub_int rfl (by omega) | rfl), (by first | exact sub_int rfl (by omega) | rfl), (by first | exact sub_int rfl (by omega) | rfl), (by first | exact sub_int rfl (by omega) | rfl), trivial⟩, rfl⟩
              refine a_nil ?_
              refine bq_n ?_
              refine tq_n ?_
              refine awp_seq ?_
              refine w_reg (l := r26_15.toList) rfl r26_15_ok ?_
              refine a_op rfl (o_mv rfl) ?_
              refine a_op rfl (o_ntf rfl) ?_
              refine a_nil ?_
              refine tq_n ?_
              refine w_true rfl ?_
              refine awp_seq ?_
              refine w_reg (l := r26_16.toList) rfl r26_16_ok ?_
              refine a_op rfl (o_mv rfl) ?_
              refine a_op rfl (o_as rfl) ?_
              refine a_op rfl (o_as rfl) ?_
              refine a_nil ?_
              refine tq_n ?_
              refine awp_ret ?_
              refine bq_r ?_
              refine tq_r ?_
              refine tq_r ?_
              refine bq_r ?_
              refine tq_r ?_
              refine r_tup (xs := []) rfl ⟨rfl, rfl, trivial⟩ ?_
              have hv : validF pts rules = ((i : Int), 130) := by rw [validF, if_neg (by omega), hp2]; exact vF_bad hi (by simp [okR, *])
              exact rs_tup ⟨rs_int (by rw [hv]), rs_int (by rw [hv]), trivial⟩
            refine a_op rfl (o_pkt rfl rfl) ?_
            refine a_op rfl (o_mv rfl) ?_
            refine a_off rfl ?_
            refine a_off rfl ?_
            refine a_off rfl ?_
            refine a_op rfl (o_pkf rfl rfl) ?_
            refine a_op rfl (o_as rfl) ?_
            refine a_nil ?_
            refine bq_n ?_
            refine tq_n ?_
            refine awp_seq ?_
            refine w_reg (l := r26_15.toList) rfl r26_15_ok ?_
            refine a_op rfl (o_mv rfl) ?_
            refine a_op rfl (o_ntf rfl) ?_
            refine a_nil ?_
            refine tq_n ?_
            refine w_true rfl ?_
            refine awp_seq ?_
            refine w_reg (l := r26_16.toList) rfl r26_16_ok ?_
            refine a_op rfl (o_mv rfl) ?_
            refine a_op rfl (o_as rfl) ?_
            refine a_op rfl (o_as rfl) ?_
            refine a_nil ?_
            refine tq_n ?_
            refine awp_ret ?_
            refine bq_r ?_
            refine tq_r ?_
            refine tq_r ?_
            refine bq_r ?_
            refine tq_r ?_
            refine r_tup (xs := []) rfl ⟨rfl, rfl, trivial⟩ ?_
            have hv : validF pts rules = ((i : Int), 130) := by rw [validF, if_neg (by omega), hp2]; exact vF_bad hi (by simp [okR, *])
            exact rs_tup ⟨rs_int (by rw [hv]), rs_int (by rw [hv]), trivial⟩
          refine a_op rfl (o_pkt rfl rfl) ?_
          refine a_op rfl (o_mv rfl) ?_
          refine a_off rfl ?_
          refine a_off rfl ?_
          refine a_off rfl ?_
          refine a_op rfl (o_pkf rfl rfl) ?_
          refine a_op rfl (o_mv rfl) ?_
          refine a_off rfl ?_
          refine a_off rfl ?_
          refine a_off rfl ?_
          refine a_op rfl (o_pkf rfl rfl) ?_
          refine a_op rfl (o_as rfl) ?_
          refine a_nil ?_
          refine bq_n ?_
          refine tq_n ?_
          refine awp_seq ?_
          refine w_reg (l := r26_15.toList) rfl r26_15_ok ?_
          refine a_op rfl (o_mv rfl) ?_
          refine a_op rfl (o_ntf rfl) ?_
          refine a_nil ?_
          refine tq_n ?_
          refine w_true rfl ?_
          refine awp_seq ?_
          refine w_reg (l := r26_16.toList) rfl r26_16_ok ?_
          refine a_op rfl (o_mv rfl) ?_
          refine a_op rfl (o_as rfl) ?_
          refine a_op rfl (o_as rfl) ?_
          refine a_nil ?_
          refine tq_n ?_
          refine awp_ret ?_
          refine bq_r ?_
          refine tq_r ?_
          refine tq_r ?_
          refine bq_r ?_
          refine tq_r ?_
          refine r_tup (xs := []) rfl ⟨rfl, rfl, trivial⟩ ?_
          have hv : validF pts rules = ((i : Int), 130) := by rw [validF, if_neg (by omega), hp2]; exact vF_bad hi (by simp [okR, *])
          exact rs_tup ⟨rs_int (by rw [hv]), rs_int (by rw [hv]), trivial⟩
        refine a_op rfl (o_pkt rfl rfl) ?_
        refine a_op rfl (o_mv rfl) ?_
        refine a_off rfl ?_
        refine a_off rfl ?_
        refine a_off rfl ?_
        refine a_off rfl ?_
        refine a_off rfl ?_
        refine a_op rfl (o_pkf rfl rfl) ?_
        refine a_op rfl (o_mv rfl) ?_
        refine a_off rfl ?_
        refine a_off rfl ?_
        refine a_off rfl ?_
        refine a_op rfl (o_pkf rfl rfl) ?_
        refine a_op rfl (o_mv rfl) ?_
        refine a_off rfl ?_
        refine a_off rfl ?_
        refine a_off rfl ?_
        refine a_op rfl (o_pkf rfl rfl) ?_
        refine a_op rfl (o_as rfl) ?_
        refine a_nil ?_
        refine bq_n ?_
        refine tq_n ?_
        refine awp_seq ?_
        refine w_reg (l := r26_15.toList) rfl r26_15_ok ?_
        refine a_op rfl (o_mv rfl) ?_
        refine a_op rfl (o_ntf rfl) ?_
        refine a_nil ?_
        refine tq_n ?_
        refine w_true rfl ?_
        refine awp_seq ?_
        refine w_reg (l := r26_16.toList) rfl r26_16_ok ?_
        refine a_op rfl (o_mv rfl) ?_
        refine a_op rfl (o_as rfl) ?_
        refine a_op rfl (o_as rfl) ?_
        refine a_nil ?_
        refine tq_n ?_
        refine awp_ret ?_
        refine bq_r ?_
        refine tq_r ?_
        refine tq_r ?_
        refine bq_r ?_
        refine tq_r ?_
        refine r_tup (xs := []) rfl ⟨rfl, rfl, trivial⟩ ?_
        have hv : validF pts rules = ((i : Int), 130) := by rw [validF, if_neg (by omega), hp2]; exact vF_bad hi (by simp [okR, *])
        exact rs_tup ⟨rs_int (by rw [hv]), rs_int (by rw [hv]), trivial⟩
      refine a_op rfl (o_mv rfl) ?_
      refine a_off rfl ?_
      refine a_off rfl ?_
      refine a_off rfl ?_
      refine a_op rfl (o_pkf rfl rfl) ?_
      refine a_op rfl (o_mv rfl) ?_
      refine a_off rfl ?_
      refine a_off rfl ?_
      refine a_off rfl ?_
      refine a_off rfl ?_
      refine a_off rfl ?_
      refine a_op rfl (o_pkf rfl rfl) ?_
      refine a_op rfl (o_mv rfl) ?_
      refine a_off rfl ?_
      refine a_off rfl ?_
      refine a_off rfl ?_
      refine a_op rfl (o_pkf rfl rfl) ?_
      refine a_op rfl (o_mv rfl) ?_
      refine a_off rfl ?_
      refine a_off rfl ?_
      refine a_off rfl ?_
      refine a_op rfl (o_pkf rfl rfl) ?_
      refine a_op rfl (o_as rfl) ?_
      refine a_nil ?_
      refine bq_n ?_
      refine tq_n ?_
      refine awp_seq ?_
      refine w_reg (l := r26_15.toList) rfl r26_15_ok ?_
      refine a_op rfl (o_mv rfl) ?_
      refine a_op rfl (o_ntf rfl) ?_
      refine a_nil ?_
      refine tq_n ?_
      refine w_true rfl ?_
      refine awp_seq ?_
      refine w_reg (l := r26_16.toList) rfl r26_16_ok ?_
      refine a_op rfl (o_mv rfl) ?_
      refine a_op rfl (o_as rfl) ?_
      refine a_op rfl (o_as rfl) ?_
      refine a_nil ?_
      refine tq_n ?_
      refine awp_ret ?_
      refine bq_r ?_
      refine tq_r ?_
      refine tq_r ?_
      refine bq_r ?_
      refine tq_r ?_
      refine r_tup (xs := []) rfl ⟨rfl, rfl, trivial⟩ ?_
      have hv : validF pts rules = ((i : Int), 130) := by rw [validF, if_neg (by omega), hp2]; exact vF_bad hi (by simp [okR, *])
      exact rs_tup ⟨rs_int (by rw [hv]), rs_int (by rw [hv]), trivial⟩
    refine a_op rfl (o_as rfl) ?_
    refine a_nil ?_
    refine tq_n ?_
    refine w_false rfl ?_
    refine awp_seq ?_
    refine w_reg (l := r26_13.toList) rfl r26_13_ok ?_
    refine a_if rfl (o_eq rfl rfl) (fun h27 => ?_) (fun h28 => ?_)
    · refine a_op rfl (o_as rfl) ?_
      refine a_nil ?_
      refine tq_n ?_
      refine w_true rfl ?_
      refine w_reg (l := r26_14.toList) rfl r26_14_ok ?_
      refine a_ifb rfl (o_mv rfl) (fun h29 => ?_) (fun h30 => ?_)
      · refine a_op rfl (o_mv rfl) ?_
        refine a_op rfl ((by first | exact o_fa tf37_2 rfl rfl | exact o_fap tf37_2 rfl rfl)) ?_
        refine a_op rfl ((by first | exact o_ld tg3 rfl rfl | exact o_ldp tg3 rfl rfl rfl rfl)) ?_
        refine a_if rfl (o_eq rfl rfl) (fun h31 => ?_) (fun h32 => ?_)
        · refine a_op rfl (o_pkt rfl rfl) ?_
          refine a_op rfl (o_mv rfl) ?_
          refine a_op rfl ((by first | exact o_fa tf37_3 rfl rfl | exact o_fap tf37_3 rfl rfl)) ?_
          refine a_op rfl ((by first | exact o_ld tg3 rfl rfl | exact o_ldp tg3 rfl rfl rfl rfl)) ?_
          refine a_if rfl (o_eq rfl rfl) (fun h33 => ?_) (fun h34 => ?_)
          · refine a_op rfl (o_pkt rfl rfl) ?_
            refine a_op rfl (o_mv rfl) ?_
            refine a_op rfl ((by first | exact o_fa tf37_4 rfl rfl | exact o_fap tf37_4 rfl rfl)) ?_
            refine a_op rfl ((by first | exact o_ld tg5 rfl rfl | exact o_ldp tg5 rfl rfl rfl rfl)) ?_
            refine a_if rfl (o_ge rfl rfl) (fun h35 => ?_) (fun h36 => ?_)
            · refine a_op rfl (o_pkt rfl rfl) ?_
              refine a_op rfl (o_mv rfl) ?_
              refine a_op rfl ((by first | exact o_fa tf37_4 rfl rfl | exact o_fap tf37_4 rfl rfl)) ?_
              refine a_op rfl ((by first | exact o_ld tg5 rfl rfl | exact o_ldp tg5 rfl rfl rfl rfl)) ?_
              refine a_op rfl (o_le rfl rfl) ?_
              refine a_op rfl (o_pkt rfl rfl) ?_
              refine a_ifb rfl (o_as rfl) (fun h37 => ?_) (fun h38 => ?_)
              · refine a_nil ?_
                refine bq_n ?_
                refine tq_n ?_
                refine awp_seq ?_
                refine w_reg (l := r26_15.toList) rfl r26_15_ok ?_
                refine a_op rfl (o_mv rfl) ?_
                refine a_op rfl (o_ntt rfl) ?_
                refine a_nil ?_
                refine tq_n ?_
                refine w_false rfl ?_
                refine awp_skip ?_
                refine bq_n ?_
                refine tq_n ?_
                refine w_view [(2, .ptr 0 0), (13, .sl 5 b1 (rules.map ruleAV)), (14, .raw (.int .i64 ((rules.length : Nat) : Int))), (15, .raw (.int .i64 ((i : Nat) : Int)))] [.var [a1, a2, a3, .sl 8 b (pts.map ptAV)]] 1 rfl (Nat.le_of_ble_eq_true rfl) (Nat.le_of_ble_eq_true rfl) ⟨⟨_, rfl, (by first | exact .sloK (Nat.le_of_ble_eq_true rfl) | exact .ptrK (Nat.le_of_ble_eq_true rfl) | exact rs_pur (by simp) rfl)⟩, ⟨_, rfl, (by first | exact .sloK (Nat.le_of_ble_eq_true rfl) | exact .ptrK (Nat.le_of_ble_eq_true rfl) | exact rs_pur (by simp) rfl)⟩, ⟨_, rfl, (by first | exact .sloK (Nat.le_of_ble_eq_true rfl) | exact .ptrK (Nat.le_of_ble_eq_true rfl) | exact rs_pur (by simp) rfl)⟩, ⟨_, rfl, (by first | exact .sloK (Nat.le_of_ble_eq_true rfl) | exact .ptrK (Nat.le_of_ble_eq_true rfl) | exact rs_pur (by simp) rfl)⟩, trivial⟩ ⟨ors_var ⟨rs_pur g1.1 rfl, rs_pur g2.1 rfl, rs_pur g3.1 rfl, rs_pur (by simp) rfl, trivial⟩, trivial⟩ ?_
                refine w_reg (l := r26_17.toList) rfl r26_17_ok ?_
                refine a_op rfl (o_add rfl rfl (by simp only [klo, khi]; omega)) ?_
                refine a_op rfl (o_mv rfl) ?_
                refine a_nil ?_
                refine tq_n ?_
                exact ⟨i + 1, ⟨⟨by omega, hp2.trans (vF_good hi (by simp [okR, *]))⟩, by omega⟩, ⟨(by first | exact sub_int rfl (by omega) | rfl), (by first | exact sub_int rfl (by omega) | rfl), (by first | exact sub_int rfl (by omega) | rfl), (by first | exact sub_int rfl (by omega) | rfl), trivial⟩, rfl⟩
              refine a_nil ?_
              refine bq_n ?_
              refine tq_n ?_
              refine awp_seq ?_
              refine w_reg (l := r26_15.toList) rfl r26_15_ok ?_
              refine a_op rfl (o_mv rfl) ?_
              refine a_op rfl (o_ntf rfl) ?_
              refine a_nil ?_
              refine tq_n ?_
              refine w_true rfl ?_
              refine awp_seq ?_
              refine w_reg (l := r26_16.toList) rfl r26_16_ok ?_
              refine a_op rfl (o_mv rfl) ?_
              refine a_op rfl (o_as rfl) ?_
              refine a_op rfl (o_as rfl) ?_
              refine a_nil ?_
              refine tq_n ?_
              refine awp_ret ?_
              refine bq_r ?_
              refine tq_r ?_
              refine tq_r ?_
              refine bq_r ?_
              refine tq_r ?_
              refine r_tup (xs := []) rfl ⟨rfl, rfl, trivial⟩ ?_
              have hv : validF pts rules = ((i : Int), 130) := by rw [validF, if_neg (by omega), hp2]; exact vF_bad hi (by simp [okR, *])
              exact rs_tup ⟨rs_int (by rw [hv]), rs_int (by rw [hv]), trivial⟩
            refine a_op rfl (o_pkt rfl rfl) ?_
            refine a_op rfl (o_mv rfl) ?_
            refine a_off rfl ?_
            refine a_off rfl ?_
            refine a_off rfl ?_
            refine a_op rfl (o_pkf rfl rfl) ?_
            refine a_op rfl (o_as rfl) ?_
            refine a_nil ?_
            refine bq_n ?_
            refine tq_n ?_
            refine awp_seq ?_
            refine w_reg (l := r26_15.toList) rfl r26_15_ok ?_
            refine a_op rfl (o_mv rfl) ?_
            refine a_op rfl (o_ntf rfl) ?_
            refine a_nil ?_
            refine tq_n ?_
            refine w_true rfl ?_
            refine awp_seq ?_
            refine w_reg (l := r26_16.toList) rfl r26_16_ok ?_
            refine a_op rfl (o_mv rfl) ?_
            refine a_op rfl (o_as rfl) ?_
            refine a_op rfl (o_as rfl) ?_
            refine a_nil ?_
            refine tq_n ?_
            refine awp_ret ?_
            refine bq_r ?_
            refine tq_r ?_
            refine tq_r ?_
            refine bq_r ?_
            refine tq_r ?_
            refine r_tup (xs := []) rfl ⟨rfl, rfl, trivial⟩ ?_
            have hv : validF pts rules = ((i : Int), 130) := by rw [validF, if_neg (by omega), hp2]; exact vF_bad hi (by simp [okR, *])
            exact rs_tup ⟨rs_int (by rw [hv]), rs_int (by rw [hv]), trivial⟩
          refine a_op rfl (o_pkt rfl rfl) ?_
          refine a_op rfl (o_mv rfl) ?_
          refine a_off rfl ?_
          refine a_off rfl ?_
          refine a_off rfl ?_
          refine a_op rfl (o_pkf rfl rfl) ?_
          refine a_op rfl (o_mv rfl) ?_
          refine a_off rfl ?_
          refine a_off rfl ?_
          refine a_off rfl ?_
          refine a_op rfl (o_pkf rfl rfl) ?_
          refine a_op rfl (o_as rfl) ?_
          refine a_nil ?_
          refine bq_n ?_
          refine tq_n ?_
          refine awp_seq ?_
          refine w_reg (l := r26_15.toList) rfl r26_15_ok ?_
          refine a_op rfl (o_mv rfl) ?_
          refine a_op rfl (o_ntf rfl) ?_
          refine a_nil ?_
          refine tq_n ?_
          refine w_true rfl ?_
          refine awp_seq ?_
          refine w_reg (l := r26_16.toList) rfl r26_16_ok ?_
          refine a_op rfl (o_mv rfl) ?_
          refine a_op rfl (o_as rfl) ?_
          refine a_op rfl (o_as rfl) ?_
          refine a_nil ?_
          refine tq_n ?_
          refine awp_ret ?_
          refine bq_r ?_
          refine tq_r ?_
          refine tq_r ?_
          refine bq_r ?_
          refine tq_r ?_
          refine r_tup (xs := []) rfl ⟨rfl, rfl, trivial⟩ ?_
          have hv : validF pts rules = ((i : Int), 130) := by rw [validF, if_neg (by omega), hp2]; exact vF_bad hi (by simp [okR, *])
          exact rs_tup ⟨rs_int (by rw [hv]), rs_int (by rw [hv]), trivial⟩
        refine a_op rfl (o_pkt rfl rfl) ?_
        refine a_op rfl (o_mv rfl) ?_
        refine a_off rfl ?_
        refine a_off rfl ?_
        refine a_off rfl ?_
        refine a_op rfl (o_pkf rfl rfl) ?_
        refine a_op rfl (o_mv rfl) ?_
        refine a_off rfl ?_
        refine a_off rfl ?_
        refine a_off rfl ?_
        refine a_op rfl (o_pkf rfl rfl) ?_
        refine a_op rfl (o_mv rfl) ?_
        refine a_off rfl ?_
        refine a_off rfl ?_
        refine a_off rfl ?_
        refine a_op rfl (o_pkf rfl rfl) ?_
        refine a_op rfl (o_as rfl) ?_
        refine a_nil ?_
        refine bq_n ?_
        refine tq_n ?_
        refine awp_seq ?_
        refine w_reg (l := r26_15.toList) rfl r26_15_ok ?_
        refine a_op rfl (o_mv rfl) ?_
        refine a_op rfl (o_ntf rfl) ?_
        refine a_nil ?_
        refine tq_n ?_
        refine w_true rfl ?_
        refine awp_seq ?_
        refine w_reg (l := r26_16.toList) rfl r26_16_ok ?_
        refine a_op rfl (o_mv rfl) ?_
        refine a_op rfl (o_as rfl) ?_
        refine a_op rfl (o_as rfl) ?_
        refine a_nil ?_
        refine tq_n ?_
        refine awp_ret ?_
        refine bq_r ?_
        refine tq_r ?_
        refine tq_r ?_
        refine bq_r ?_
        refine tq_r ?_
        refine r_tup (xs := []) rfl ⟨rfl, rfl, trivial⟩ ?_
        have hv : validF pts rules = ((i : Int), 130) := by rw [validF, if_neg (by omega), hp2]; exact vF_bad hi (by simp [okR, *])
        exact rs_tup ⟨rs_int (by rw [hv]), rs_int (by rw [hv]), trivial⟩
      refine a_op rfl (o_mv rfl) ?_
      refine a_off rfl ?_
      refine a_off rfl ?_
      refine a_off rfl ?_
      refine a_op rfl (o_pkf rfl rfl) ?_
      refine a_op rfl (o_mv rfl) ?_
      refine a_off rfl ?_
      refine a_off rfl ?_
      refine a_off rfl ?_
      refine a_op rfl (o_pkf rfl rfl) ?_
      refine a_op rfl (o_mv rfl) ?_
      refine a_off rfl ?_
      refine a_off rfl ?_
      refine a_off rfl ?_
      refine a_op rfl (o_pkf rfl rfl) ?_
      refine a_op rfl (o_mv rfl) ?_
      refine a_off rfl ?_
      refine a_off rfl ?_
      refine a_off rfl ?_
      refine a_op rfl (o_pkf rfl rfl) ?_
      refine a_op rfl (o_as rfl) ?_
      refine a_nil ?_
      refine bq_n ?_
      refine tq_n ?_
      refine awp_seq ?_
      refine w_reg (l := r26_15.toList) rfl r26_15_ok ?_
      refine a_op rfl (o_mv rfl) ?_
      refine a_op rfl (o_ntf rfl) ?_
      refine a_nil ?_
      refine tq_n ?_
      refine w_true rfl ?_
      refine awp_seq ?_
      refine w_reg (l := r26_16.toList) rfl r26_16_ok ?_
      refine a_op rfl (o_mv rfl) ?_
      refine a_op rfl (o_as rfl) ?_
      refine a_op rfl (o_as rfl) ?_
      refine a_nil ?_
      refine tq_n ?_
      refine awp_ret ?_
      refine bq_r ?_
      refine tq_r ?_
      refine tq_r ?_
      refine bq_r ?_
      refine tq_r ?_
      refine r_tup (xs := []) rfl ⟨rfl, rfl, trivial⟩ ?_
      have hv : validF pts rules = ((i : Int), 130) := by rw [validF, if_neg (by omega), hp2]; exact vF_bad hi (by simp [okR, *])
      exact rs_tup ⟨rs_int (by rw [hv]), rs_int (by rw [hv]), trivial⟩
    refine a_op rfl (o_as rfl) ?_
    refine a_nil ?_
    refine tq_n ?_
    refine w_false rfl ?_
    refine w_reg (l := r26_8.toList) rfl r26_8_ok ?_
    refine a_op rfl (o_as rfl) ?_
    refine a_nil ?_
    refine bq_n ?_
    refine tq_n ?_
    refine awp_seq ?_
    refine w_reg (l := r26_15.toList) rfl r26_15_ok ?_
    refine a_op rfl (o_mv rfl) ?_
    refine a_op rfl (o_ntf rfl) ?_
    refine a_nil ?_
    refine tq_n ?_
    refine w_true rfl ?_
    refine awp_seq ?_
    refine w_reg (l := r26_16.toList) rfl r26_16_ok ?_
    refine a_op rfl (o_mv rfl) ?_
    refine a_op rfl (o_as rfl) ?_
    refine a_op rfl (o_as rfl) ?_
    refine a_nil ?_
    refine tq_n ?_
    refine awp_ret ?_
    refine bq_r ?_
    refine tq_r ?_
    refine tq_r ?_
    refine bq_r ?_
    refine tq_r ?_
    refine r_tup (xs := []) rfl ⟨rfl, rfl, trivial⟩ ?_
    have hv : validF pts rules = ((i : Int), 130) := by rw [validF, if_neg (by omega), hp2]; exact vF_bad hi (by simp [okR, *])
    exact rs_tup ⟨rs_int (by rw [hv]), rs_int (by rw [hv]), trivial⟩
  refine a_nil ?_
  refine tq_n ?_
  refine awp_seq ?_
  refine w_false rfl ?_
  refine awp_exit ?_
  refine tq_x ?_
  refine tq_x ?_
  refine bq_hit ?_
  refine tq_n ?_
  refine awp_seq ?_
  refine w_reg (l := r26_18.toList) rfl r26_18_ok ?_
  refine a_op rfl (o_as rfl) ?_
  refine a_op rfl (o_as rfl) ?_
  refine a_nil ?_
  refine tq_n ?_
  refine awp_ret ?_
  refine r_tup (xs := []) rfl ⟨rfl, rfl, trivial⟩ ?_
  have hv : validF pts rules = (0, 0) := by rw [validF, if_neg (by omega), hp2, List.drop_of_length_le (by omega)]; rfl
  exact rs_tup ⟨rs_int (by rw [hv]), rs_int (by rw [hv]), trivial⟩
end Go.Ab.D
