/- What functions of this program compute, and the laws of what they compute, under the bounds on lengths that each contract states. -/
import Derived.Test.YtghoaglolhdoeaaDoorD3
set_option linter.unusedSimpArgs false
set_option linter.unusedVariables false
namespace Go.Ab.D
open Go Go.Ab Go.Proofs
def vacB (day : Int) (x : RuleR) : Bool := decide (day ≥ x.frm ∧ day ≤ x.to)
def seaB (day : Int) (x : RuleR) : Bool := yrB day x.frm x.to
def wekB (day : Int) (x : RuleR) : Bool := wkB x (wk day)
def statF (p : PtR) (rules : List RuleR) (hol : List Int) (day : Int) : Int :=
  if (cM (vacB day) p.id 2 rules : Int) > 0 then 3
  else if ((cA p.id 1 rules : Int) > 0 ∧ (cM (seaB day) p.id 1 rules : Int) = 0) ∨ ((cA p.id 3 rules : Int) > 0 ∧ (cM (wekB day) p.id 3 rules : Int) = 0) ∨ (p.street = 0 ∧ day ∈ hol) then 2 else 1
theorem wk_bd (day : Int) : 0 ≤ wk day := by unfold wk; split <;> omega

noncomputable def r35_0 : Array Oper := opsAt Tryd.f35 [0]
theorem r35_0_ok : dstOk 80 r35_0.toList = true ∧ r35_0.toList.all (fun o => noDefer o.op) = true := by decide +kernel
noncomputable def r35_1 : Array Oper := opsAt Tryd.f35 [1, 0]
theorem r35_1_ok : dstOk 80 r35_1.toList = true ∧ r35_1.toList.all (fun o => noDefer o.op) = true := by decide +kernel
noncomputable def r35_2 : Array Oper := opsAt Tryd.f35 [1, 1, 0]
theorem r35_2_ok : dstOk 80 r35_2.toList = true ∧ r35_2.toList.all (fun o => noDefer o.op) = true := by decide +kernel
noncomputable def r35_3 : Array Oper := opsAt Tryd.f35 [1, 1, 1, 0]
theorem r35_3_ok : dstOk 80 r35_3.toList = true ∧ r35_3.toList.all (fun o => noDefer o.op) = true := by decide +kernel
noncomputable def r35_4 : Array Oper := opsAt Tryd.f35 [1, 1, 1, 1, 0]
theorem r35_4_ok : dstOk 80 r35_4.toList = true ∧ r35_4.toList.all (fun o => noDefer o.op) = true := by decide +kernel
noncomputable def r35_5 : Array Oper := opsAt Tryd.f35 [1, 1, 1, 1, 1, 0]
theorem r35_5_ok : dstOk 80 r35_5.toList = true ∧ r35_5.toList.all (fun o => noDefer o.op) = true := by decide +kernel
noncomputable def r35_6 : Array Oper := opsAt Tryd.f35 [1, 1, 1, 1, 1, 1, 0, 0, 0]
theorem r35_6_ok : dstOk 80 r35_6.toList = true ∧ r35_6.toList.all (fun o => noDefer o.op) = true := by decide +kernel
noncomputable def r35_7 : Array Oper := opsAt Tryd.f35 [1, 1, 1, 1, 1, 1, 0, 0, 1, 0, 0]
theorem r35_7_ok : dstOk 80 r35_7.toList = true ∧ r35_7.toList.all (fun o => noDefer o.op) = true := by decide +kernel
noncomputable def r35_8 : Array Oper := opsAt Tryd.f35 [1, 1, 1, 1, 1, 1, 0, 0, 1, 1, 0]
theorem r35_8_ok : dstOk 80 r35_8.toList = true ∧ r35_8.toList.all (fun o => noDefer o.op) = true := by decide +kernel
noncomputable def r35_9 : Array Oper := opsAt Tryd.f35 [1, 1, 1, 1, 1, 1, 0, 0, 1, 1, 1, 0, 0]
theorem r35_9_ok : dstOk 80 r35_9.toList = true ∧ r35_9.toList.all (fun o => noDefer o.op) = true := by decide +kernel
noncomputable def r35_10 : Array Oper := opsAt Tryd.f35 [1, 1, 1, 1, 1, 1, 1, 0]
theorem r35_10_ok : dstOk 80 r35_10.toList = true ∧ r35_10.toList.all (fun o => noDefer o.op) = true := by decide +kernel
noncomputable def c35 : Code := (.seq (.region 0 r35_0 false) (.seq (.region 1 r35_1 false) (.seq (.region 2 r35_2 false) (.seq (.region 3 r35_3 false) (.seq (.region 4 r35_4 false) (.seq (.region 5 r35_5 false) (.seq (.block 0 (.seq (.region 6 r35_6 false) (.cond (.tmp 54) (.seq (.region 7 r35_7 false) .ret) (.seq (.region 8 r35_8 false) (.cond (.tmp 57) (.seq (.region 9 r35_9 false) .ret) .skip))))) (.seq (.region 10 r35_10 false) .ret))))))))
theorem body35 : Tryd.f35.body = some c35 := by kernel_rfl
theorem stat_ok (p : PtR) (b : Bool) (rules : List RuleR) (hl1 : rules.length ≤ 4611686018427387904) (hx1 : ∀ x ∈ rules, x.ok) (b2 : Bool) (hol : List Int) (hl2 : hol.length ≤ 4611686018427387904) (hpw : hol.Pairwise (· < ·)) (day : Int) : PureCall Tryd.prog GL 35 [ptAV p, .sl 5 b (rules.map ruleAV), .sl 1 b2 (hol.map intAV), .raw (.int .i64 day)] (.raw (.int .u8 (statF p rules hol day))) := by
  refine pure_of_body Tryd.func35 body35 (Nat.le_of_ble_eq_true rfl) (by simp) (by simp) ?_
  refine w_keep [(0, ptAV p), (1, .sl 5 b (rules.map ruleAV)), (2, .sl 1 b2 (hol.map intAV)), (3, .raw (.int .i64 day))] ⟨rfl, rfl, rfl, rfl, trivial⟩ ?_
  unfold c35
  refine awp_seq ?_
  refine w_reg (l := r35_0.toList) rfl r35_0_ok ?_
  refine a_op rfl (o_box (N := 0) rfl (by rfl) rfl rfl) ?_
  refine a_op rfl (o_box (N := 1) rfl (by rfl) rfl rfl) ?_
  refine a_op rfl (o_as rfl) ?_
  refine a_nil ?_
  refine tq_n ?_
  refine awp_seq ?_
  refine w_reg (l := r35_1.toList) rfl r35_1_ok ?_
  refine a_op rfl ((by first | exact o_ld tg3 rfl rfl | exact o_ldp tg3 rfl rfl rfl rfl)) ?_
  refine a_pure rfl rfl rfl cb58 (weekday_ok _) ?_
  refine a_op rfl (o_mv rfl) ?_
  refine a_op rfl (o_ex rfl rfl) ?_
  refine a_op rfl (o_ex rfl rfl) ?_
  refine a_op rfl (o_al (N := 2) tz3 rfl rfl rfl) ?_
  refine a_op0 rfl (o_st (N := 0) tn3 rfl rfl rfl rfl rfl) ?_
  refine a_op rfl (o_as rfl) ?_
  refine a_nil ?_
  refine tq_n ?_
  refine awp_seq ?_
  refine w_reg (l := r35_2.toList) rfl r35_2_ok ?_
  refine a_op rfl (o_mv rfl) ?_
  refine a_op rfl ((by first | exact o_fa tf39_0 rfl rfl | exact o_fap tf39_0 rfl rfl)) ?_
  refine a_op rfl ((by first | exact o_ld tg3 rfl rfl | exact o_ldp tg3 rfl rfl rfl rfl)) ?_
  refine a_op rfl (o_mf rfl rfl) ?_
  refine a_lend (vs' := [.sl 5 b (rules.map ruleAV), _, _, .fn 60 [] [.rp [.raw (.int .i64 day)]]]) rfl rfl rfl cb59 (says_ok _ _ (by omega) _ _ 60 [.rp [.raw (.int .i64 day)]] (by simp) cb60 (vacB day) (fun x hx => vac_ok x day)) ⟨rs_pur (by simp) rfl, rs_pur (by simp) rfl, rs_pur (by simp) rfl, rs_fn trivial ⟨rs_ptr id rfl rfl ⟨rs_pur (by simp) rfl, trivial⟩, trivial⟩, trivial⟩ (by simp) ?_
  refine a_op rfl (o_mv rfl) ?_
  refine a_op rfl (o_ex rfl rfl) ?_
  refine a_op rfl (o_ex rfl rfl) ?_
  refine a_op rfl (o_as rfl) ?_
  refine a_op rfl (o_as rfl) ?_
  refine a_nil ?_
  refine tq_n ?_
  refine awp_seq ?_
  refine w_reg (l := r35_3.toList) rfl r35_3_ok ?_
  refine a_op rfl (o_mv rfl) ?_
  refine a_op rfl ((by first | exact o_fa tf39_0 rfl rfl | exact o_fap tf39_0 rfl rfl)) ?_
  refine a_op rfl ((by first | exact o_ld tg3 rfl rfl | exact o_ldp tg3 rfl rfl rfl rfl)) ?_
  refine a_op rfl (o_mf rfl rfl) ?_
  refine a_lend (vs' := [.sl 5 b (rules.map ruleAV), _, _, .fn 61 [] [.rp [.raw (.int .i64 day)]]]) rfl rfl rfl cb59 (says_ok _ _ (by omega) _ _ 61 [.rp [.raw (.int .i64 day)]] (by simp) cb61 (seaB day) (fun x hx => sea_ok x (hx1 x hx) day)) ⟨rs_pur (by simp) rfl, rs_pur (by simp) rfl, rs_pur (by simp) rfl, rs_fn trivial ⟨rs_ptr id rfl rfl ⟨rs_pur (by simp) rfl, trivial⟩, trivial⟩, trivial⟩ (by simp) ?_
  refine a_op rfl (o_mv rfl) ?_
  refine a_op rfl (o_ex rfl rfl) ?_
  refine a_op rfl (o_ex rfl rfl) ?_
  refine a_op rfl (o_as rfl) ?_
  refine a_op rfl (o_as rfl) ?_
  refine a_nil ?_
  refine tq_n ?_
  refine awp_seq ?_
  refine w_reg (l := r35_4.toList) rfl r35_4_ok ?_
  refine a_op rfl (o_mv rfl) ?_
  refine a_op rfl ((by first | exact o_fa tf39_0 rfl rfl | exact o_fap tf39_0 rfl rfl)) ?_
  refine a_op rfl ((by first | exact o_ld tg3 rfl rfl | exact o_ldp tg3 rfl rfl rfl rfl)) ?_
  refine a_op rfl (o_mf rfl rfl) ?_
  refine a_lend (vs' := [.sl 5 b (rules.map ruleAV), _, _, .fn 63 [] [.rp [.raw (.int .i64 (wk day))]]]) rfl rfl rfl cb59 (says_ok _ _ (by omega) _ _ 63 [.rp [.raw (.int .i64 (wk day))]] (by simp) cb63 (wekB day) (fun x hx => wkb_ok x (hx1 x hx) (wk day) (wk_bd day))) ⟨rs_pur (by simp) rfl, rs_pur (by simp) rfl, rs_pur (by simp) rfl, rs_fn trivial ⟨rs_ptr id rfl rfl ⟨rs_pur (by simp) rfl, trivial⟩, trivial⟩, trivial⟩ (by simp) ?_
  refine a_op rfl (o_mv rfl) ?_
  refine a_op rfl (o_ex rfl rfl) ?_
  refine a_op rfl (o_ex rfl rfl) ?_
  refine a_op rfl (o_as rfl) ?_
  refine a_op rfl (o_as rfl) ?_
  refine a_nil ?_
  refine tq_n ?_
  refine awp_seq ?_
  refine w_reg (l := r35_5.toList) rfl r35_5_ok ?_
  refine a_op rfl (o_mv rfl) ?_
  refine a_op rfl ((by first | exact o_ld tg3 rfl rfl | exact o_ldp tg3 rfl rfl rfl rfl)) ?_
  refine a_pure rfl rfl rfl cb64 (bsearch_ok _ _ (by omega) hpw _) ?_
  refine a_op rfl (o_mv rfl) ?_
  refine a_op rfl (o_ex rfl rfl) ?_
  refine a_op rfl (o_ex rfl rfl) ?_
  refine a_op rfl (o_as rfl) ?_
  refine a_op rfl (o_as rfl) ?_
  refine a_nil ?_
  refine tq_n ?_
  refine awp_seq ?_
  refine awp_block ?_
  refine awp_seq ?_
  refine w_reg (l := r35_6.toList) rfl r35_6_ok ?_
  refine a_op rfl (o_mv rfl) ?_
  refine a_if rfl (o_gt rfl rfl) (fun h1 => ?_) (fun h2 => ?_)
  · refine a_op rfl (o_as rfl) ?_
    refine a_nil ?_
    refine tq_n ?_
    refine w_true rfl ?_
    refine awp_seq ?_
    refine w_reg (l := r35_7.toList) rfl r35_7_ok ?_
    refine a_op rfl (o_as rfl) ?_
    refine a_nil ?_
    refine tq_n ?_
    refine awp_ret ?_
    refine bq_r ?_
    refine tq_r ?_
    refine r_one rfl ⟨rfl, trivial⟩ ?_
    exact rs_int (by simp only [statF]; repeat' split <;> first | rfl | (exfalso; simp_all; done) | simp_all)
  · refine a_op rfl (o_as rfl) ?_
    refine a_nil ?_
    refine tq_n ?_
    refine w_false rfl ?_
    refine awp_seq ?_
    refine w_reg (l := r35_8.toList) rfl r35_8_ok ?_
    refine a_op rfl (o_mv rfl) ?_
    refine a_if rfl (o_gt rfl rfl) (fun h3 => ?_) (fun h4 => ?_)
    · refine a_op rfl (o_mv rfl) ?_
      refine a_op rfl (o_mv rfl) ?_
      refine a_if rfl (o_eq rfl rfl) (fun h5 => ?_) (fun h6 => ?_)
      · refine a_op rfl (o_pkt rfl rfl) ?_
        refine a_op rfl (o_mv rfl) ?_
        refine a_off rfl ?_
        refine a_off rfl ?_
        refine a_off rfl ?_
        refine a_off rfl ?_
        refine a_off rfl ?_
        refine a_off rfl ?_
        refine a_op rfl (o_pkt rfl rfl) ?_
        refine a_op rfl (o_mv rfl) ?_
        refine a_off rfl ?_
        refine a_off rfl ?_
        refine a_off rfl ?_
        refine a_off rfl ?_
        refine a_off rfl ?_
        refine a_off rfl ?_
        refine a_op rfl (o_pkt rfl rfl) ?_
        refine a_op rfl (o_as rfl) ?_
        refine a_nil ?_
        refine tq_n ?_
        refine w_true rfl ?_
        refine awp_seq ?_
        refine w_reg (l := r35_9.toList) rfl r35_9_ok ?_
        refine a_op rfl (o_as rfl) ?_
        refine a_nil ?_
        refine tq_n ?_
        refine awp_ret ?_
        refine bq_r ?_
        refine tq_r ?_
        refine r_one rfl ⟨rfl, trivial⟩ ?_
        exact rs_int (by simp only [statF]; repeat' split <;> first | rfl | (exfalso; simp_all; done) | simp_all)
      · refine a_op rfl (o_pkt rfl rfl) ?_
        refine a_op rfl (o_mv rfl) ?_
        refine a_op rfl (o_mv rfl) ?_
        refine a_if rfl (o_gt rfl rfl) (fun h7 => ?_) (fun h8 => ?_)
        · refine a_op rfl (o_mv rfl) ?_
          refine a_op rfl (o_mv rfl) ?_
          refine a_if rfl (o_eq rfl rfl) (fun h9 => ?_) (fun h10 => ?_)
          · refine a_op rfl (o_pkt rfl rfl) ?_
            refine a_op rfl (o_pkf rfl rfl) ?_
            refine a_op rfl (o_mv rfl) ?_
            refine a_off rfl ?_
            refine a_off rfl ?_
            refine a_off rfl ?_
            refine a_off rfl ?_
            refine a_off rfl ?_
            refine a_off rfl ?_
            refine a_op rfl (o_pkt rfl rfl) ?_
            refine a_op rfl (o_as rfl) ?_
            refine a_nil ?_
            refine tq_n ?_
            refine w_true rfl ?_
            refine awp_seq ?_
            refine w_reg (l := r35_9.toList) rfl r35_9_ok ?_
            refine a_op rfl (o_as rfl) ?_
            refine a_nil ?_
            refine tq_n ?_
            refine awp_ret ?_
            refine bq_r ?_
            refine tq_r ?_
            refine r_one rfl ⟨rfl, trivial⟩ ?_
            exact rs_int (by simp only [statF]; repeat' split <;> first | rfl | (exfalso; simp_all; done) | simp_all)
          · refine a_op rfl (o_pkt rfl rfl) ?_
            refine a_op rfl (o_pkf rfl rfl) ?_
            refine a_op rfl (o_mv rfl) ?_
            refine a_op rfl ((by first | exact o_fa tf39_2 rfl rfl | exact o_fap tf39_2 rfl rfl)) ?_
            refine a_op rfl ((by first | exact o_ld tg3 rfl rfl | exact o_ldp tg3 rfl rfl rfl rfl)) ?_
            refine a_if rfl (o_eq rfl rfl) (fun h11 => ?_) (fun h12 => ?_)
            · refine a_op rfl (o_mv rfl) ?_
              refine a_ifb rfl (o_mv rfl) (fun h13 => ?_) (fun h14 => ?_)
              · refine a_op rfl (o_pkt rfl rfl) ?_
                refine a_op rfl (o_pkf rfl rfl) ?_
                refine a_op rfl (o_as rfl) ?_
                refine a_nil ?_
                refine tq_n ?_
                refine w_true rfl ?_
                refine awp_seq ?_
                refine w_reg (l := r35_9.toList) rfl r35_9_ok ?_
                refine a_op rfl (o_as rfl) ?_
                refine a_nil ?_
                refine tq_n ?_
                refine awp_ret ?_
                refine bq_r ?_
                refine tq_r ?_
                refine r_one rfl ⟨rfl, trivial⟩ ?_
                exact rs_int (by simp only [statF]; repeat' split <;> first | rfl | (exfalso; simp_all; done) | simp_all)
              · refine a_op rfl (o_pkt rfl rfl) ?_
                refine a_op rfl (o_pkf rfl rfl) ?_
                refine a_op rfl (o_as rfl) ?_
                refine a_nil ?_
                refine tq_n ?_
                refine w_false rfl ?_
                refine awp_skip ?_
                refine bq_n ?_
                refine tq_n ?_
                refine awp_seq ?_
                refine w_reg (l := r35_10.toList) rfl r35_10_ok ?_
                refine a_op rfl (o_as rfl) ?_
                refine a_nil ?_
                refine tq_n ?_
                refine awp_ret ?_
                refine r_one rfl ⟨rfl, trivial⟩ ?_
                exact rs_int (by simp only [statF]; repeat' split <;> first | rfl | (exfalso; simp_all; done) | simp_all)
            · refine a_op rfl (o_mv rfl) ?_
              refine a_off rfl ?_
              refine a_op rfl (o_pkf rfl rfl) ?_
              refine a_op rfl (o_pkf rfl rfl) ?_
              refine a_op rfl (o_as rfl) ?_
              refine a_nil ?_
              refine tq_n ?_
              refine w_false rfl ?_
              refine awp_skip ?_
              refine bq_n ?_
              refine tq_n ?_
              refine awp_seq ?_
              refine w_reg (l := r35_10.toList) rfl r35_10_ok ?_
              refine a_op rfl (o_as rfl) ?_
              refine a_nil ?_
              refine tq_n ?_
              refine awp_ret ?_
              refine r_one rfl ⟨rfl, trivial⟩ ?_
              exact rs_int (by simp only [statF]; repeat' split <;> first | rfl | (exfalso; simp_all; done) | simp_all)
        · refine a_op rfl (o_mv rfl) ?_
          refine a_off rfl ?_
          refine a_off rfl ?_
          refine a_op rfl (o_pkf rfl rfl) ?_
          refine a_op rfl (o_pkf rfl rfl) ?_
          refine a_op rfl (o_mv rfl) ?_
          refine a_op rfl ((by first | exact o_fa tf39_2 rfl rfl | exact o_fap tf39_2 rfl rfl)) ?_
          refine a_op rfl ((by first | exact o_ld tg3 rfl rfl | exact o_ldp tg3 rfl rfl rfl rfl)) ?_
          refine a_if rfl (o_eq rfl rfl) (fun h15 => ?_) (fun h16 => ?_)
          · refine a_op rfl (o_mv rfl) ?_
            refine a_ifb rfl (o_mv rfl) (fun h17 => ?_) (fun h18 => ?_)
            · refine a_op rfl (o_pkt rfl rfl) ?_
              refine a_op rfl (o_pkf rfl rfl) ?_
              refine a_op rfl (o_as rfl) ?_
              refine a_nil ?_
              refine tq_n ?_
              refine w_true rfl ?_
              refine awp_seq ?_
              refine w_reg (l := r35_9.toList) rfl r35_9_ok ?_
              refine a_op rfl (o_as rfl) ?_
              refine a_nil ?_
              refine tq_n ?_
              refine awp_ret ?_
              refine bq_r ?_
              refine tq_r ?_
              refine r_one rfl ⟨rfl, trivial⟩ ?_
              exact rs_int (by simp only [statF]; repeat' split <;> first | rfl | (exfalso; simp_all; done) | simp_all)
            · refine a_op rfl (o_pkt rfl rfl) ?_
              refine a_op rfl (o_pkf rfl rfl) ?_
              refine a_op rfl (o_as rfl) ?_
              refine a_nil ?_
              refine tq_n ?_
              refine w_false rfl ?_
              refine awp_skip ?_
              refine bq_n ?_
              refine tq_n ?_
              refine awp_seq ?_
              refine w_reg (l := r35_10.toList) rfl r35_10_ok ?_
              refine a_op rfl (o_as rfl) ?_
              refine a_nil ?_
              refine tq_n ?_
              refine awp_ret ?_
              refine r_one rfl ⟨rfl, trivial⟩ ?_
              exact rs_int (by simp only [statF]; repeat' split <;> first | rfl | (exfalso; simp_all; done) | simp_all)
          · refine a_op rfl (o_mv rfl) ?_
            refine a_off rfl ?_
            refine a_op rfl (o_pkf rfl rfl) ?_
            refine a_op rfl (o_pkf rfl rfl) ?_
            refine a_op rfl (o_as rfl) ?_
            refine a_nil ?_
            refine tq_n ?_
            refine w_false rfl ?_
            refine awp_skip ?_
            refine bq_n ?_
            refine tq_n ?_
            refine awp_seq ?_
            refine w_reg (l := r35_10.toList) rfl r35_10_ok ?_
            refine a_op rfl (o_as rfl) ?_
            refine a_nil ?_
            refine tq_n ?_
            refine awp_ret ?_
            refine r_one rfl ⟨rfl, trivial⟩ ?_
            exact rs_int (by simp only [statF]; repeat' split <;> first | rfl | (exfalso; simp_all; done) | simp_all)
    · refine a_op rfl (o_mv rfl) ?_
      refine a_off rfl ?_
      refine a_off rfl ?_
      refine a_op rfl (o_pkf rfl rfl) ?_
      refine a_op rfl (o_mv rfl) ?_
      refine a_op rfl (o_mv rfl) ?_
      refine a_if rfl (o_gt rfl rfl) (fun h19 => ?_) (fun h20 => ?_)
      · refine a_op rfl (o_mv rfl) ?_
        refine a_op rfl (o_mv rfl) ?_
        refine a_if rfl (o_eq rfl rfl) (fun h21 => ?_) (fun h22 => ?_)
        · refine a_op rfl (o_pkt rfl rfl) ?_
          refine a_op rfl (o_pkf rfl rfl) ?_
          refine a_op rfl (o_mv rfl) ?_
          refine a_off rfl ?_
          refine a_off rfl ?_
          refine a_off rfl ?_
          refine a_off rfl ?_
          refine a_off rfl ?_
          refine a_off rfl ?_
          refine a_op rfl (o_pkt rfl rfl) ?_
          refine a_op rfl (o_as rfl) ?_
          refine a_nil ?_
          refine tq_n ?_
          refine w_true rfl ?_
          refine awp_seq ?_
          refine w_reg (l := r35_9.toList) rfl r35_9_ok ?_
          refine a_op rfl (o_as rfl) ?_
          refine a_nil ?_
          refine tq_n ?_
          refine awp_ret ?_
          refine bq_r ?_
          refine tq_r ?_
          refine r_one rfl ⟨rfl, trivial⟩ ?_
          exact rs_int (by simp only [statF]; repeat' split <;> first | rfl | (exfalso; simp_all; done) | simp_all)
        · refine a_op rfl (o_pkt rfl rfl) ?_
          refine a_op rfl (o_pkf rfl rfl) ?_
          refine a_op rfl (o_mv rfl) ?_
          refine a_op rfl ((by first | exact o_fa tf39_2 rfl rfl | exact o_fap tf39_2 rfl rfl)) ?_
          refine a_op rfl ((by first | exact o_ld tg3 rfl rfl | exact o_ldp tg3 rfl rfl rfl rfl)) ?_
          refine a_if rfl (o_eq rfl rfl) (fun h23 => ?_) (fun h24 => ?_)
          · refine a_op rfl (o_mv rfl) ?_
            refine a_ifb rfl (o_mv rfl) (fun h25 => ?_) (fun h26 => ?_)
            · refine a_op rfl (o_pkt rfl rfl) ?_
              refine a_op rfl (o_pkf rfl rfl) ?_
              refine a_op rfl (o_as rfl) ?_
              refine a_nil ?_
              refine tq_n ?_
              refine w_true rfl ?_
              refine awp_seq ?_
              refine w_reg (l := r35_9.toList) rfl r35_9_ok ?_
              refine a_op rfl (o_as rfl) ?_
              refine a_nil ?_
              refine tq_n ?_
              refine awp_ret ?_
              refine bq_r ?_
              refine tq_r ?_
              refine r_one rfl ⟨rfl, trivial⟩ ?_
              exact rs_int (by simp only [statF]; repeat' split <;> first | rfl | (exfalso; simp_all; done) | simp_all)
            · refine a_op rfl (o_pkt rfl rfl) ?_
              refine a_op rfl (o_pkf rfl rfl) ?_
              refine a_op rfl (o_as rfl) ?_
              refine a_nil ?_
              refine tq_n ?_
              refine w_false rfl ?_
              refine awp_skip ?_
              refine bq_n ?_
              refine tq_n ?_
              refine awp_seq ?_
              refine w_reg (l := r35_10.toList) rfl r35_10_ok ?_
              refine a_op rfl (o_as rfl) ?_
              refine a_nil ?_
              refine tq_n ?_
              refine awp_ret ?_
              refine r_one rfl ⟨rfl, trivial⟩ ?_
              exact rs_int (by simp only [statF]; repeat' split <;> first | rfl | (exfalso; simp_all; done) | simp_all)
          · refine a_op rfl (o_mv rfl) ?_
            refine a_off rfl ?_
            refine a_op rfl (o_pkf rfl rfl) ?_
            refine a_op rfl (o_pkf rfl rfl) ?_
            refine a_op rfl (o_as rfl) ?_
            refine a_nil ?_
            refine tq_n ?_
            refine w_false rfl ?_
            refine awp_skip ?_
            refine bq_n ?_
            refine tq_n ?_
            refine awp_seq ?_
            refine w_reg (l := r35_10.toList) rfl r35_10_ok ?_
            refine a_op rfl (o_as rfl) ?_
            refine a_nil ?_
            refine tq_n ?_
            refine awp_ret ?_
            refine r_one rfl ⟨rfl, trivial⟩ ?_
            exact rs_int (by simp only [statF]; repeat' split <;> first | rfl | (exfalso; simp_all; done) | simp_all)
      · refine a_op rfl (o_mv rfl) ?_
        refine a_off rfl ?_
        refine a_off rfl ?_
        refine a_op rfl (o_pkf rfl rfl) ?_
        refine a_op rfl (o_pkf rfl rfl) ?_
        refine a_op rfl (o_mv rfl) ?_
        refine a_op rfl ((by first | exact o_fa tf39_2 rfl rfl | exact o_fap tf39_2 rfl rfl)) ?_
        refine a_op rfl ((by first | exact o_ld tg3 rfl rfl | exact o_ldp tg3 rfl rfl rfl rfl)) ?_
        refine a_if rfl (o_eq rfl rfl) (fun h27 => ?_) (fun h28 => ?_)
        · refine a_op rfl (o_mv rfl) ?_
          refine a_ifb rfl (o_mv rfl) (fun h29 => ?_) (fun h30 => ?_)
          · refine a_op rfl (o_pkt rfl rfl) ?_
            refine a_op rfl (o_pkf rfl rfl) ?_
            refine a_op rfl (o_as rfl) ?_
            refine a_nil ?_
            refine tq_n ?_
            refine w_true rfl ?_
            refine awp_seq ?_
            refine w_reg (l := r35_9.toList) rfl r35_9_ok ?_
            refine a_op rfl (o_as rfl) ?_
            refine a_nil ?_
            refine tq_n ?_
            refine awp_ret ?_
            refine bq_r ?_
            refine tq_r ?_
            refine r_one rfl ⟨rfl, trivial⟩ ?_
            exact rs_int (by simp only [statF]; repeat' split <;> first | rfl | (exfalso; simp_all; done) | simp_all)
          · refine a_op rfl (o_pkt rfl rfl) ?_
            refine a_op rfl (o_pkf rfl rfl) ?_
            refine a_op rfl (o_as rfl) ?_
            refine a_nil ?_
            refine tq_n ?_
            refine w_false rfl ?_
            refine awp_skip ?_
            refine bq_n ?_
            refine tq_n ?_
            refine awp_seq ?_
            refine w_reg (l := r35_10.toList) rfl r35_10_ok ?_
            refine a_op rfl (o_as rfl) ?_
            refine a_nil ?_
            refine tq_n ?_
            refine awp_ret ?_
            refine r_one rfl ⟨rfl, trivial⟩ ?_
            exact rs_int (by simp only [statF]; repeat' split <;> first | rfl | (exfalso; simp_all; done) | simp_all)
        · refine a_op rfl (o_mv rfl) ?_
          refine a_off rfl ?_
          refine a_op rfl (o_pkf rfl rfl) ?_
          refine a_op rfl (o_pkf rfl rfl) ?_
          refine a_op rfl (o_as rfl) ?_
          refine a_nil ?_
          refine tq_n ?_
          refine w_false rfl ?_
          refine awp_skip ?_
          refine bq_n ?_
          refine tq_n ?_
          refine awp_seq ?_
          refine w_reg (l := r35_10.toList) rfl r35_10_ok ?_
          refine a_op rfl (o_as rfl) ?_
          refine a_nil ?_
          refine tq_n ?_
          refine awp_ret ?_
          refine r_one rfl ⟨rfl, trivial⟩ ?_
          exact rs_int (by simp only [statF]; repeat' split <;> first | rfl | (exfalso; simp_all; done) | simp_all)

theorem incr_pw : ∀ (l : List Int) (last : Int), incr last l = true → l.Pairwise (· < ·) ∧ ∀ x ∈ l, last < x
  | [], _, _ => ⟨.nil, by simp⟩
  | d :: t, last, h => by
    simp only [incr, Bool.and_eq_true, Bool.not_eq_true', Bool.or_eq_false_iff, decide_eq_false_iff_not] at h
    have := incr_pw t d h.2
    exact ⟨.cons this.2 this.1, fun x hx => by
      rcases List.mem_cons.1 hx with rfl | hx
      · omega
      · have := this.2 x hx; omega⟩
theorem right_pw {hol : List Int} (h : rightF hol = true) : hol.Pairwise (· < ·) := by
  simp only [rightF, Bool.and_eq_true] at h; exact (incr_pw hol (-1) h.1).1
theorem wrF_pw {hol : List Int} {day : Int} (h : ¬ wrF hol day ≠ 0) : hol.Pairwise (· < ·) := by
  have : rightF hol = true := by
    cases hr : rightF hol with
    | true => rfl
    | false => exact absurd (by simp [wrF, hr]) h
  exact right_pw this
theorem wrF_day {hol : List Int} {day : Int} (h : ¬ wrF hol day ≠ 0) : 0 ≤ day ∧ day ≤ 730484 := by
  unfold wrF at h; split at h <;> (try split at h) <;> simp at h <;> omega
def stV (pts : List PtR) (rules : List RuleR) (hol : List Int) (n day : Int) : Int := if wrF hol day ≠ 0 then 0 else if (findP pts n).isSome = true then statF ((findP pts n).getD zeroPt) rules hol day else 0
def nxt (f : Int → Bool) : Nat → Int → Int × Bool
  | 0, _ => (0, false)
  | k + 1, d => if f d = true then (d, true) else nxt f k (d + 1)
def nxN (day : Int) : Nat := (min (day + 800) 730484 - day + 1).toNat
def nxV (pts : List PtR) (rules : List RuleR) (hol : List Int) (n day : Int) : Int × Bool := if wrF hol day ≠ 0 then (0, false) else if (findP pts n).isSome = true then nxt (fun d => decide (statF ((findP pts n).getD zeroPt) rules hol d = 1)) (nxN day) day else (0, false)
theorem nxt_step {f : Int → Bool} {n i : Nat} {d : Int} (hi : i < n) (h : ¬ f (d + i) = true) : nxt f (n - i) (d + i) = nxt f (n - (i + 1)) (d + (i + 1 : Nat)) := by
  rw [show n - i = (n - (i + 1)) + 1 by omega]; simp only [nxt]; rw [if_neg h]; congr 1; omega
theorem nxt_hit {f : Int → Bool} {n i : Nat} {d : Int} (hi : i < n) (h : f (d + i) = true) : nxt f (n - i) (d + i) = (d + i, true) := by
  rw [show n - i = (n - (i + 1)) + 1 by omega]; simp only [nxt]; rw [if_pos h]
theorem statF_bd (p : PtR) (rules : List RuleR) (hol : List Int) (day : Int) : 1 ≤ statF p rules hol day ∧ statF p rules hol day ≤ 3 := by unfold statF; repeat' split <;> omega

noncomputable def r31_0 : Array Oper := opsAt Tryd.f31 [0]
theorem r31_0_ok : dstOk 34 r31_0.toList = true ∧ r31_0.toList.all (fun o => noDefer o.op) = true := by decide +kernel
noncomputable def r31_1 : Array Oper := opsAt Tryd.f31 [1, 0, 0]
theorem r31_1_ok : dstOk 34 r31_1.toList = true ∧ r31_1.toList.all (fun o => noDefer o.op) = true := by decide +kernel
noncomputable def r31_2 : Array Oper := opsAt Tryd.f31 [1, 0, 1, 0]
theorem r31_2_ok : dstOk 34 r31_2.toList = true ∧ r31_2.toList.all (fun o => noDefer o.op) = true := by decide +kernel
noncomputable def r31_3 : Array Oper := opsAt Tryd.f31 [1, 0, 1, 1, 0, 0]
theorem r31_3_ok : dstOk 34 r31_3.toList = true ∧ r31_3.toList.all (fun o => noDefer o.op) = true := by decide +kernel
noncomputable def r31_4 : Array Oper := opsAt Tryd.f31 [1, 1, 0]
theorem r31_4_ok : dstOk 34 r31_4.toList = true ∧ r31_4.toList.all (fun o => noDefer o.op) = true := by decide +kernel
noncomputable def r31_5 : Array Oper := opsAt Tryd.f31 [1, 1, 1, 0, 0]
theorem r31_5_ok : dstOk 34 r31_5.toList = true ∧ r31_5.toList.all (fun o => noDefer o.op) = true := by decide +kernel
noncomputable def r31_6 : Array Oper := opsAt Tryd.f31 [1, 1, 1, 0, 1, 0, 0]
theorem r31_6_ok : dstOk 34 r31_6.toList = true ∧ r31_6.toList.all (fun o => noDefer o.op) = true := by decide +kernel
noncomputable def r31_7 : Array Oper := opsAt Tryd.f31 [1, 1, 1, 1, 0]
theorem r31_7_ok : dstOk 34 r31_7.toList = true ∧ r31_7.toList.all (fun o => noDefer o.op) = true := by decide +kernel
noncomputable def c31 : Code := (.seq (.region 0 r31_0 false) (.seq (.seq (.region 1 r31_1 false) (.seq (.region 2 r31_2 false) (.cond (.tmp 19) (.seq (.region 3 r31_3 false) .ret) .skip))) (.seq (.region 4 r31_4 false) (.seq (.seq (.region 5 r31_5 false) (.cond (.tmp 28) (.seq (.region 6 r31_6 false) .ret) .skip)) (.seq (.region 7 r31_7 false) .ret)))))
theorem body31 : Tryd.f31.body = some c31 := by kernel_rfl
theorem Status_ok (a1 a2 a3 : AV) (g1 : Cel a1) (g2 : Cel a2) (g3 : Cel a3) (b : Bool) (pts : List PtR) (hl : pts.length ≤ 4611686018427387904) (b1 : Bool) (rules : List RuleR) (hl1 : rules.length ≤ 4611686018427387904) (hx1 : ∀ x ∈ rules, x.ok) (b2 : Bool) (hol : List Int) (hl2 : hol.length ≤ 4611686018427387904) (n day : Int) : PureCall Tryd.prog GL 31 [refAV a1 a2 a3 b pts, .sl 5 b1 (rules.map ruleAV), .sl 1 b2 (hol.map intAV), .raw (.int .i64 n), .raw (.int .i64 day)] (.tup [.raw (.int .u8 (stV pts rules hol n day)), .raw (.int .i64 (wrF hol day))]) := by
  refine pure_of_body Tryd.func31 body31 (Nat.le_of_ble_eq_true rfl) (by simp [pur_ref g1 g2 g3]) (by simp) ?_
  refine w_keep [(0, refAV a1 a2 a3 b pts), (1, .sl 5 b1 (rules.map ruleAV)), (2, .sl 1 b2 (hol.map intAV)), (3, .raw (.int .i64 n)), (4, .raw (.int .i64 day))] ⟨rfl, rfl, rfl, rfl, rfl, trivial⟩ ?_
  unfold c31
  refine awp_seq ?_
  refine w_reg (l := r31_0.toList) rfl r31_0_ok ?_
  refine a_op rfl (o_box (N := 0) rfl (by first | exact ref_good g1 g2 g3 | rfl) rfl rfl) ?_
  refine a_op rfl (o_as rfl) ?_
  refine a_op rfl (o_as rfl) ?_
  refine a_nil ?_
  refine tq_n ?_
  refine awp_seq ?_
  refine awp_seq ?_
  refine w_reg (l := r31_1.toList) rfl r31_1_ok ?_
  refine a_op rfl (o_mv rfl) ?_
  refine a_op rfl (o_mv rfl) ?_
  refine a_pure rfl rfl rfl cb33 (wrong_ok _ _ (by omega) _) ?_
  refine a_op rfl (o_as rfl) ?_
  refine a_nil ?_
  refine tq_n ?_
  refine awp_seq ?_
  refine w_reg (l := r31_2.toList) rfl r31_2_ok ?_
  refine a_op rfl (o_mv rfl) ?_
  refine a_if rfl (o_ne rfl rfl) (fun h1 => ?_) (fun h2 => ?_)
  · refine a_nil ?_
    refine tq_n ?_
    refine w_true rfl ?_
    refine awp_seq ?_
    refine w_reg (l := r31_3.toList) rfl r31_3_ok ?_
    refine a_op rfl (o_mv rfl) ?_
    refine a_op rfl (o_as rfl) ?_
    refine a_op rfl (o_as rfl) ?_
    refine a_nil ?_
    refine tq_n ?_
    refine awp_ret ?_
    refine tq_r ?_
    refine r_tup (xs := []) rfl ⟨rfl, rfl, trivial⟩ ?_
    exact rs_tup ⟨rs_int (by simp only [stV]; simp_all), rs_int (by first | rfl | omega), trivial⟩
  · refine a_nil ?_
    refine tq_n ?_
    refine w_false rfl ?_
    refine awp_skip ?_
    refine tq_n ?_
    refine awp_seq ?_
    refine w_reg (l := r31_4.toList) rfl r31_4_ok ?_
    refine a_op rfl ((by first | exact o_ldg tg30 tn30 rfl rfl | exact o_ldpg tg30 tn30 rfl rfl rfl rfl)) ?_
    refine a_op rfl (o_mv rfl) ?_
    refine a_pure rfl rfl rfl cb34 (point_ok _ _ _ g1 g2 g3 _ _ (by omega) _) ?_
    refine a_op rfl (o_mv rfl) ?_
    refine a_op rfl (o_ex rfl rfl) ?_
    refine a_op rfl (o_ex rfl rfl) ?_
    refine a_op rfl (o_al (N := 1) tz39 rfl rfl rfl) ?_
    refine a_op0 rfl (o_st (N := 7) tn39 rfl rfl rfl rfl rfl) ?_
    refine a_op rfl (o_as rfl) ?_
    refine a_nil ?_
    refine tq_n ?_
    refine awp_seq ?_
    refine awp_seq ?_
    refine w_reg (l := r31_5.toList) rfl r31_5_ok ?_
    refine a_ifb rfl (o_mv rfl) (fun h3 => ?_) (fun h4 => ?_)
    · refine a_op rfl (o_ntt rfl) ?_
      refine a_nil ?_
      refine tq_n ?_
      refine w_false rfl ?_
      refine awp_skip ?_
      refine tq_n ?_
      refine awp_seq ?_
      have hpw := wrF_pw (hol := hol) (day := day) (by assumption)
      refine w_reg (l := r31_7.toList) rfl r31_7_ok ?_
      refine a_op rfl ((by first | exact o_ldg tg39 tn39 rfl rfl | exact o_ldpg tg39 tn39 rfl rfl rfl rfl)) ?_
      refine a_op rfl (o_mv rfl) ?_
      refine a_op rfl (o_mv rfl) ?_
      refine a_op rfl (o_mv rfl) ?_
      refine a_pure rfl rfl rfl cb35 (stat_ok _ _ _ (by omega) hx1 _ _ (by omega) hpw _) ?_
      refine a_op rfl (o_as rfl) ?_
      refine a_op rfl (o_as rfl) ?_
      refine a_nil ?_
      refine tq_n ?_
      refine awp_ret ?_
      refine r_tup (xs := []) rfl ⟨rfl, rfl, trivial⟩ ?_
      exact rs_tup ⟨rs_int (by simp only [stV]; simp_all), rs_int (by first | rfl | omega), trivial⟩
    · refine a_op rfl (o_ntf rfl) ?_
      refine a_nil ?_
      refine tq_n ?_
      refine w_true rfl ?_
      refine awp_seq ?_
      refine w_reg (l := r31_6.toList) rfl r31_6_ok ?_
      refine a_op rfl (o_as rfl) ?_
      refine a_op rfl (o_as rfl) ?_
      refine a_nil ?_
      refine tq_n ?_
      refine awp_ret ?_
      refine tq_r ?_
      refine r_tup (xs := []) rfl ⟨rfl, rfl, trivial⟩ ?_
      exact rs_tup ⟨rs_int (by simp only [stV]; simp_all), rs_int (by first | rfl | omega), trivial⟩
noncomputable def r17_0 : Array Oper := opsAt Tryd.f17 [0]
theorem r17_0_ok : dstOk 47 r17_0.toList = true ∧ r17_0.toList.all (fun o => noDefer o.op) = true := by decide +kernel
noncomputable def r17_1 : Array Oper := opsAt Tryd.f17 [1, 0, 0]
theorem r17_1_ok : dstOk 47 r17_1.toList = true ∧ r17_1.toList.all (fun o => noDefer o.op) = true := by decide +kernel
noncomputable def r17_2 : Array Oper := opsAt Tryd.f17 [1, 0, 1, 0]
theorem r17_2_ok : dstOk 47 r17_2.toList = true ∧ r17_2.toList.all (fun o => noDefer o.op) = true := by decide +kernel
noncomputable def r17_3 : Array Oper := opsAt Tryd.f17 [1, 0, 1, 1, 0, 0]
theorem r17_3_ok : dstOk 47 r17_3.toList = true ∧ r17_3.toList.all (fun o => noDefer o.op) = true := by decide +kernel
noncomputable def r17_4 : Array Oper := opsAt Tryd.f17 [1, 1, 0]
theorem r17_4_ok : dstOk 47 r17_4.toList = true ∧ r17_4.toList.all (fun o => noDefer o.op) = true := by decide +kernel
noncomputable def r17_5 : Array Oper := opsAt Tryd.f17 [1, 1, 1, 0, 0]
theorem r17_5_ok : dstOk 47 r17_5.toList = true ∧ r17_5.toList.all (fun o => noDefer o.op) = true := by decide +kernel
noncomputable def r17_6 : Array Oper := opsAt Tryd.f17 [1, 1, 1, 0, 1, 0, 0, 0, 0]
theorem r17_6_ok : dstOk 47 r17_6.toList = true ∧ r17_6.toList.all (fun o => noDefer o.op) = true := by decide +kernel
noncomputable def r17_8 : Array Oper := opsAt Tryd.f17 [1, 1, 1, 0, 1, 0, 0, 1, 0, 0, 0]
theorem r17_8_ok : dstOk 47 r17_8.toList = true ∧ r17_8.toList.all (fun o => noDefer o.op) = true := by decide +kernel
noncomputable def r17_9 : Array Oper := opsAt Tryd.f17 [1, 1, 1, 0, 1, 0, 0, 1, 0, 0, 1, 0, 0]
theorem r17_9_ok : dstOk 47 r17_9.toList = true ∧ r17_9.toList.all (fun o => noDefer o.op) = true := by decide +kernel
noncomputable def r17_7 : Array Oper := opsAt Tryd.f17 [1, 1, 1, 0, 1, 0, 0, 1, 1]
theorem r17_7_ok : dstOk 47 r17_7.toList = true ∧ r17_7.toList.all (fun o => noDefer o.op) = true := by decide +kernel
noncomputable def b17_0 : Code := (.seq (.seq (.region 6 r17_6 false) (.cond (.tmp 37) .skip (.exit 0))) (.seq (.block 1 (.seq (.region 8 r17_8 false) (.cond (.tmp 45) (.seq (.region 9 r17_9 false) .ret) .skip))) (.region 7 r17_7 false)))
noncomputable def r17_10 : Array Oper := opsAt Tryd.f17 [1, 1, 1, 1, 0]
theorem r17_10_ok : dstOk 47 r17_10.toList = true ∧ r17_10.toList.all (fun o => noDefer o.op) = true := by decide +kernel
noncomputable def c17 : Code := (.seq (.region 0 r17_0 false) (.seq (.seq (.region 1 r17_1 false) (.seq (.region 2 r17_2 false) (.cond (.tmp 21) (.seq (.region 3 r17_3 false) .ret) .skip))) (.seq (.region 4 r17_4 false) (.seq (.seq (.region 5 r17_5 false) (.block 0 (.loop b17_0))) (.seq (.region 10 r17_10 false) .ret)))))
theorem body17 : Tryd.f17.body = some c17 := by kernel_rfl
theorem Next_ok (a1 a2 a3 : AV) (g1 : Cel a1) (g2 : Cel a2) (g3 : Cel a3) (b : Bool) (pts : List PtR) (hl : pts.length ≤ 4611686018427387904) (b1 : Bool) (rules : List RuleR) (hl1 : rules.length ≤ 4611686018427387904) (hx1 : ∀ x ∈ rules, x.ok) (b2 : Bool) (hol : List Int) (hl2 : hol.length ≤ 4611686018427387904) (n day : Int) : PureCall Tryd.prog GL 17 [refAV a1 a2 a3 b pts, .sl 5 b1 (rules.map ruleAV), .sl 1 b2 (hol.map intAV), .raw (.int .i64 n), .raw (.int .i64 day)] (.tup [.raw (.int .i64 (nxV pts rules hol n day).1), .raw (.bool (nxV pts rules hol n day).2), .raw (.int .i64 (wrF hol day))]) := by
  refine pure_of_body Tryd.func17 body17 (Nat.le_of_ble_eq_true rfl) (by simp [pur_ref g1 g2 g3]) (by simp) ?_
  refine w_keep [(0, refAV a1 a2 a3 b pts), (1, .sl 5 b1 (rules.map ruleAV)), (2, .sl 1 b2 (hol.map intAV)), (3, .raw (.int .i64 n)), (4, .raw (.int .i64 day))] ⟨rfl, rfl, rfl, rfl, rfl, trivial⟩ ?_
  unfold c17
  refine awp_seq ?_
  refine w_reg (l := r17_0.toList) rfl r17_0_ok ?_
  refine a_op rfl (o_box (N := 0) rfl (by first | exact ref_good g1 g2 g3 | rfl) rfl rfl) ?_
  refine a_op rfl (o_as rfl) ?_
  refine a_op rfl (o_as rfl) ?_
  refine a_op rfl (o_as rfl) ?_
  refine a_nil ?_
  refine tq_n ?_
  refine awp_seq ?_
  refine awp_seq ?_
  refine w_reg (l := r17_1.toList) rfl r17_1_ok ?_
  refine a_op rfl (o_mv rfl) ?_
  refine a_op rfl (o_mv rfl) ?_
  refine a_pure rfl rfl rfl cb33 (wrong_ok _ _ (by omega) _) ?_
  refine a_op rfl (o_as rfl) ?_
  refine a_nil ?_
  refine tq_n ?_
  refine awp_seq ?_
  refine w_reg (l := r17_2.toList) rfl r17_2_ok ?_
  refine a_op rfl (o_mv rfl) ?_
  refine a_if rfl (o_ne rfl rfl) (fun h1 => ?_) (fun h2 => ?_)
  · refine a_nil ?_
    refine tq_n ?_
    refine w_true rfl ?_
    refine awp_seq ?_
    refine w_reg (l := r17_3.toList) rfl r17_3_ok ?_
    refine a_op rfl (o_mv rfl) ?_
    refine a_op rfl (o_as rfl) ?_
    refine a_op rfl (o_as rfl) ?_
    refine a_op rfl (o_as rfl) ?_
    refine a_nil ?_
    refine tq_n ?_
    refine awp_ret ?_
    refine tq_r ?_
    refine r_tup (xs := [_]) rfl ⟨rfl, rfl, rfl, trivial⟩ ?_
    have e : nxV pts rules hol n day = (0, false) := by simp only [nxV]; rw [if_pos (by assumption)]
    rw [e]
    exact rs_tup ⟨rs_int rfl, rs_pur (by simp) rfl, rs_int (by first | rfl | omega), trivial⟩
  · refine a_nil ?_
    refine tq_n ?_
    refine w_false rfl ?_
    refine awp_skip ?_
    refine tq_n ?_
    refine awp_seq ?_
    refine w_reg (l := r17_4.toList) rfl r17_4_ok ?_
    refine a_op rfl ((by first | exact o_ldg tg30 tn30 rfl rfl | exact o_ldpg tg30 tn30 rfl rfl rfl rfl)) ?_
    refine a_op rfl (o_mv rfl) ?_
    refine a_pure rfl rfl rfl cb34 (point_ok _ _ _ g1 g2 g3 _ _ (by omega) _) ?_
    refine a_op rfl (o_mv rfl) ?_
    refine a_op rfl (o_ex rfl rfl) ?_
    refine a_op rfl (o_ex rfl rfl) ?_
    refine a_op rfl (o_al (N := 1) tz39 rfl rfl rfl) ?_
    refine a_op0 rfl (o_st (N := 7) tn39 rfl rfl rfl rfl rfl) ?_
    refine a_op rfl (o_as rfl) ?_
    refine a_nil ?_
    refine tq_n ?_
    refine awp_seq ?_
    refine awp_seq ?_
    have hpw := wrF_pw (hol := hol) (day := day) (by assumption)
    have hwd := wrF_day (hol := hol) (day := day) (by assumption)
    have hnN : (nxN day : Int) = min (day + 800) 730484 - day + 1 := by unfold nxN; omega
    refine w_reg (l := r17_5.toList) rfl r17_5_ok ?_
    refine a_op rfl (o_mv rfl) ?_
    refine a_op rfl (o_as rfl) ?_
    refine a_nil ?_
    refine tq_n ?_
    refine awp_block ?_
    refine w_loop (fun i : Nat => i ≤ nxN day ∧ nxt (fun d => decide (statF ((findP pts n).getD zeroPt) rules hol d = 1)) (nxN day) day = nxt (fun d => decide (statF ((findP pts n).getD zeroPt) rules hol d = 1)) (nxN day - i) (day + (i : Int))) (fun i => [(1, .sl 5 b1 (rules.map ruleAV)), (2, .sl 1 b2 (hol.map intAV)), (4, .raw (.int .i64 day)), (14, .ptr 1 0), (15, .raw (.bool (findP pts n).isSome)), (16, .raw (.int .i64 (day + (i : Int))))]) (fun i => [.var [a1, a2, a3, .sl 8 b (pts.map ptAV)], .var (ptAV ((findP pts n).getD zeroPt)).cells]) (fun i => nxN day - i) (0) ⟨by omega, by simp⟩ ⟨(by first | exact sub_int rfl (by omega) | rfl), (by first | exact sub_int rfl (by omega) | rfl), (by first | exact sub_int rfl (by omega) | rfl), (by first | exact sub_int rfl (by omega) | rfl), (by first | exact sub_int rfl (by omega) | rfl), (by first | exact sub_int rfl (by omega) | rfl), trivial⟩ rfl ?_
    intro i ⟨hp1, hp2⟩
    unfold b17_0
    refine awp_seq ?_
    refine awp_seq ?_
    refine w_reg (l := r17_6.toList) rfl r17_6_ok ?_
    refine a_ifb rfl (o_mv rfl) (fun h3 => ?_) (fun h4 => ?_)
    · refine a_op rfl (o_mv rfl) ?_
      refine a_op rfl (o_mv rfl) ?_
      refine a_op rfl (o_mv rfl) ?_
      refine a_op rfl (o_add rfl rfl (by simp only [klo, khi]; omega)) ?_
      refine a_op rfl (o_min rfl rfl) ?_
      refine a_if rfl (o_le rfl rfl) (fun h5 => ?_) (fun h6 => ?_)
      · refine a_op rfl (o_pkt rfl rfl) ?_
        refine a_nil ?_
        refine tq_n ?_
        refine w_true rfl ?_
        refine awp_skip ?_
        refine tq_n ?_
        refine awp_seq ?_
        refine awp_block ?_
        refine awp_seq ?_
        refine w_reg (l := r17_8.toList) rfl r17_8_ok ?_
        refine a_op rfl ((by first | exact o_ldg tg39 tn39 rfl rfl | exact o_ldpg tg39 tn39 rfl rfl rfl rfl)) ?_
        refine a_op rfl (o_mv rfl) ?_
        refine a_op rfl (o_mv rfl) ?_
        refine a_op rfl (o_mv rfl) ?_
        refine a_pure rfl rfl rfl cb35 (stat_ok _ _ _ (by omega) hx1 _ _ (by omega) hpw _) ?_
        refine a_if rfl (o_eq rfl rfl) (fun h7 => ?_) (fun h8 => ?_)
        · refine a_nil ?_
          refine tq_n ?_
          refine w_true rfl ?_
          refine awp_seq ?_
          refine w_reg (l := r17_9.toList) rfl r17_9_ok ?_
          refine a_op rfl (o_mv rfl) ?_
          refine a_op rfl (o_as rfl) ?_
          refine a_op rfl (o_as rfl) ?_
          refine a_op rfl (o_as rfl) ?_
          refine a_nil ?_
          refine tq_n ?_
          refine awp_ret ?_
          refine bq_r ?_
          refine tq_r ?_
          refine tq_r ?_
          refine bq_r ?_
          refine tq_r ?_
          refine r_tup (xs := [_]) rfl ⟨rfl, rfl, rfl, trivial⟩ ?_
          have e : nxV pts rules hol n day = (day + (i : Int), true) := by simp only [nxV]; rw [if_neg (by assumption), if_pos (by assumption), hp2, nxt_hit (by omega) (by simp; assumption)]
          rw [e]
          exact rs_tup ⟨rs_int rfl, rs_pur (by simp) rfl, rs_int (by first | rfl | omega), trivial⟩
        · refine a_nil ?_
          refine tq_n ?_
          refine w_false rfl ?_
          refine awp_skip ?_
          refine bq_n ?_
          refine tq_n ?_
          refine w_reg (l := r17_7.toList) rfl r17_7_ok ?_
          refine a_op rfl (o_mv rfl) ?_
          refine a_op rfl (o_add rfl rfl (by simp only [klo, khi]; omega)) ?_
          refine a_op rfl (o_as rfl) ?_
          refine a_nil ?_
          refine tq_n ?_
          exact ⟨i + 1, ⟨⟨by omega, hp2.trans (nxt_step (by omega) (by simp; assumption))⟩, by omega⟩, ⟨(by first | exact sub_int rfl (by omega) | rfl), (by first | exact sub_int rfl (by omega) | rfl), (by first | exact sub_int rfl (by omega) | rfl), (by first | exact sub_int rfl (by omega) | rfl), (by first | exact sub_int rfl (by omega) | rfl), (by first | exact sub_int rfl (by omega) | rfl), trivial⟩, rfl⟩
      · refine a_op rfl (o_pkt rfl rfl) ?_
        refine a_nil ?_
        refine tq_n ?_
        refine w_false rfl ?_
        refine awp_exit ?_
        refine tq_x ?_
        refine tq_x ?_
        refine bq_hit ?_
        refine tq_n ?_
        refine awp_seq ?_
        refine w_reg (l := r17_10.toList) rfl r17_10_ok ?_
        refine a_op rfl (o_as rfl) ?_
        refine a_op rfl (o_as rfl) ?_
        refine a_op rfl (o_as rfl) ?_
        refine a_nil ?_
        refine tq_n ?_
        refine awp_ret ?_
        refine r_tup (xs := [_]) rfl ⟨rfl, rfl, rfl, trivial⟩ ?_
        have e : nxV pts rules hol n day = (0, false) := by simp only [nxV]; rw [if_neg (by assumption), if_pos (by assumption), hp2, show nxN day - i = 0 by omega]; rfl
        rw [e]
        exact rs_tup ⟨rs_int rfl, rs_pur (by simp) rfl, rs_int (by first | rfl | omega), trivial⟩
    · refine a_op rfl (o_mv rfl) ?_
      refine a_off rfl ?_
      refine a_off rfl ?_
      refine a_off rfl ?_
      refine a_off rfl ?_
      refine a_off rfl ?_
      refine a_op rfl (o_pkf rfl rfl) ?_
      refine a_nil ?_
      refine tq_n ?_
      refine w_false rfl ?_
      refine awp_exit ?_
      refine tq_x ?_
      refine tq_x ?_
      refine bq_hit ?_
      refine tq_n ?_
      refine awp_seq ?_
      refine w_reg (l := r17_10.toList) rfl r17_10_ok ?_
      refine a_op rfl (o_as rfl) ?_
      refine a_op rfl (o_as rfl) ?_
      refine a_op rfl (o_as rfl) ?_
      refine a_nil ?_
      refine tq_n ?_
      refine awp_ret ?_
      refine r_tup (xs := [_]) rfl ⟨rfl, rfl, rfl, trivial⟩ ?_
      have e : nxV pts rules hol n day = (0, false) := by simp only [nxV]; rw [if_neg (by assumption), if_neg (by simp_all)]
      rw [e]
      exact rs_tup ⟨rs_int rfl, rs_pur (by simp) rfl, rs_int (by first | rfl | omega), trivial⟩
end Go.Ab.D
