/- What functions of this program compute, and the laws of what they compute, under the bounds on lengths that each contract states. -/
import Derived.Test.YtghoaglolhdoeaaDoorD6
set_option linter.unusedSimpArgs false
set_option linter.unusedVariables false
namespace Go.Ab.D
open Go Go.Ab Go.Proofs

noncomputable def r32_0 : Array Oper := opsAt Tryd.f32 [0]
theorem r32_0_ok : dstOk 29 r32_0.toList = true ∧ r32_0.toList.all (fun o => noDefer o.op) = true := by decide +kernel
noncomputable def r32_1 : Array Oper := opsAt Tryd.f32 [1, 0]
theorem r32_1_ok : dstOk 29 r32_1.toList = true ∧ r32_1.toList.all (fun o => noDefer o.op) = true := by decide +kernel
noncomputable def r32_2 : Array Oper := opsAt Tryd.f32 [1, 1, 0]
theorem r32_2_ok : dstOk 29 r32_2.toList = true ∧ r32_2.toList.all (fun o => noDefer o.op) = true := by decide +kernel
noncomputable def c32 : Code := (.seq (.region 0 r32_0 false) (.seq (.region 1 r32_1 false) (.seq (.region 2 r32_2 false) .ret)))
theorem body32 : Tryd.f32.body = some c32 := by kernel_rfl
theorem is_ok (b1 : Bool) (rules : List RuleR) (hl1 : rules.length ≤ 4611686018427387904) (hx1 : ∀ x ∈ rules, x.ok) (b2 : Bool) (hol : List Int) (hl2 : hol.length ≤ 4611686018427387904) (n day want : Int) : PureCall Tryd.prog GL 32 [.sl 5 b1 (rules.map ruleAV), .sl 1 b2 (hol.map intAV), .raw (.int .i64 n), .raw (.int .i64 day), .raw (.int .u8 want)] (.raw (.bool (decide (stV exPts rules hol n day = want ∧ wrF hol day = 0)))) := by
  refine pure_of_body Tryd.func32 body32 (Nat.le_of_ble_eq_true rfl) (by simp) (by simp) ?_
  refine w_keep [(0, .sl 5 b1 (rules.map ruleAV)), (1, .sl 1 b2 (hol.map intAV)), (2, .raw (.int .i64 n)), (3, .raw (.int .i64 day)), (4, .raw (.int .u8 want))] ⟨rfl, rfl, rfl, rfl, rfl, trivial⟩ ?_
  unfold c32
  refine awp_seq ?_
  refine w_reg (l := r32_0.toList) rfl r32_0_ok ?_
  refine a_op rfl (o_as rfl) ?_
  refine a_nil ?_
  refine tq_n ?_
  refine awp_seq ?_
  refine w_reg (l := r32_1.toList) rfl r32_1_ok ?_
  refine a_pure rfl rfl rfl cb29 (example_ok) ?_
  refine a_op rfl (o_mv rfl) ?_
  refine a_op rfl (o_mv rfl) ?_
  refine a_op rfl (o_mv rfl) ?_
  refine a_op rfl (o_mv rfl) ?_
  refine a_pure rfl rfl rfl cb31 (Status_ok _ _ _ cel_nilS cel_nilS cel_nilS _ _ (by decide) _ _ (by omega) hx1 _ _ (by omega) _ _) ?_
  refine a_op rfl (o_mv rfl) ?_
  refine a_op rfl (o_ex rfl rfl) ?_
  refine a_op rfl (o_ex rfl rfl) ?_
  refine a_op rfl (o_as rfl) ?_
  refine a_op rfl (o_as rfl) ?_
  refine a_nil ?_
  refine tq_n ?_
  refine awp_seq ?_
  refine w_reg (l := r32_2.toList) rfl r32_2_ok ?_
  refine a_op rfl (o_mv rfl) ?_
  refine a_op rfl (o_mv rfl) ?_
  refine a_if rfl (o_eq rfl rfl) (fun h1 => ?_) (fun h2 => ?_)
  · refine a_op rfl (o_mv rfl) ?_
    refine a_op rfl (o_mv rfl) ?_
    refine a_op rfl (o_eq rfl rfl) ?_
    refine a_op rfl (o_pkt rfl rfl) ?_
    refine a_op rfl (o_as rfl) ?_
    refine a_nil ?_
    refine tq_n ?_
    refine awp_ret ?_
    refine r_one rfl ⟨rfl, trivial⟩ ?_
    exact rs_dec (by simp only [decide_eq_true_eq, Bool.false_eq_true, false_iff, true_iff]; omega)
  · refine a_op rfl (o_mv rfl) ?_
    refine a_off rfl ?_
    refine a_off rfl ?_
    refine a_op rfl (o_pkf rfl rfl) ?_
    refine a_op rfl (o_as rfl) ?_
    refine a_nil ?_
    refine tq_n ?_
    refine awp_ret ?_
    refine r_one rfl ⟨rfl, trivial⟩ ?_
    exact rs_dec (by simp only [decide_eq_true_eq, Bool.false_eq_true, false_iff, true_iff]; omega)

def EX : AV := refAV nilS nilS nilS true exPts
def summer : RuleR := ⟨11, 1, 401, 930, 0⟩
def winter : RuleR := ⟨11, 1, 1215, 115, 0⟩
def emptyR : RuleR := ⟨12, 2, 0, 9, 0⟩
def weekR : RuleR := ⟨12, 3, 0, 0, 31⟩
theorem is_true (b1 : Bool) (rules : List RuleR) (b2 : Bool) (hol : List Int) (n day want : Int) (h : (stV exPts rules hol n day = want ∧ wrF hol day = 0) ∧ rules.length ≤ 10 ∧ hol.length ≤ 10) (hx1 : ∀ x ∈ rules, x.ok) :
    PureCall Tryd.prog GL 32 [.sl 5 b1 (rules.map ruleAV), .sl 1 b2 (hol.map intAV), .raw (.int .i64 n), .raw (.int .i64 day), .raw (.int .u8 want)] (.raw (.bool true)) := by
  have := is_ok b1 rules (by omega) hx1 b2 hol (by omega) n day want
  rw [show decide (stV exPts rules hol n day = want ∧ wrF hol day = 0) = true from decide_eq_true h.1] at this
  exact this
theorem aw_next : PureCall Tryd.prog GL 17 [EX, .sl 5 true ([summer].map ruleAV), .sl 1 false (([] : List Int).map intAV), .raw (.int .i64 11), .raw (.int .i64 0)] (.tup [.raw (.int .i64 90), .raw (.bool true), .raw (.int .i64 0)]) := by
  have := Next_ok nilS nilS nilS cel_nilS cel_nilS cel_nilS true exPts (by decide) true [summer] (by decide) (by simp [summer, RuleR.ok]) false [] (by decide) 11 0
  rw [show nxV exPts [summer] [] 11 0 = (90, true) by decide +kernel, show wrF [] 0 = 0 by decide +kernel] at this
  exact this
theorem aw_open0 : PureCall Tryd.prog GL 18 [EX, .sl 5 true (([] : List RuleR).map ruleAV), .sl 1 true ([0].map intAV), .raw (.int .i64 0)] (.tup [.sl 1 false ([11, 12].map intAV), .raw (.int .i64 0)]) := by
  have := Open_ok nilS nilS nilS cel_nilS cel_nilS cel_nilS true exPts (by decide) true [] (by decide) (by simp) true [0] (by decide) 0 (by decide) (by decide)
  rw [opAV, if_neg (by decide +kernel), show opF exPts [] [0] 0 = [11, 12] by decide +kernel, show wrF [0] 0 = 0 by decide +kernel] at this
  exact this
theorem aw_open1 : PureCall Tryd.prog GL 18 [EX, .sl 5 true (([] : List RuleR).map ruleAV), .sl 1 true ([0].map intAV), .raw (.int .i64 1)] (.tup [.sl 1 false ([11, 12, 13].map intAV), .raw (.int .i64 0)]) := by
  have := Open_ok nilS nilS nilS cel_nilS cel_nilS cel_nilS true exPts (by decide) true [] (by decide) (by simp) true [0] (by decide) 1 (by decide) (by decide)
  rw [opAV, if_neg (by decide +kernel), show opF exPts [] [0] 1 = [11, 12, 13] by decide +kernel, show wrF [0] 1 = 0 by decide +kernel] at this
  exact this
theorem aw_same (xs : List Int) (h : xs.length ≤ 10) : PureCall Tryd.prog GL 19 [.sl 1 false (xs.map intAV), .sl 1 true (xs.map intAV)] (.raw (.bool true)) := by
  have := sameInts_ok false xs (by omega) true xs (by omega)
  rw [show decide (xs = xs) = true by simp] at this
  exact this

noncomputable def r15_0 : Array Oper := opsAt Tryd.f15 [0]
theorem r15_0_ok : dstOk 115 r15_0.toList = true ∧ r15_0.toList.all (fun o => noDefer o.op) = true := by decide +kernel
noncomputable def r15_1 : Array Oper := opsAt Tryd.f15 [1, 0]
theorem r15_1_ok : dstOk 115 r15_1.toList = true ∧ r15_1.toList.all (fun o => noDefer o.op) = true := by decide +kernel
noncomputable def r15_2 : Array Oper := opsAt Tryd.f15 [1, 1, 0]
theorem r15_2_ok : dstOk 115 r15_2.toList = true ∧ r15_2.toList.all (fun o => noDefer o.op) = true := by decide +kernel
noncomputable def r15_3 : Array Oper := opsAt Tryd.f15 [1, 1, 1, 0]
theorem r15_3_ok : dstOk 115 r15_3.toList = true ∧ r15_3.toList.all (fun o => noDefer o.op) = true := by decide +kernel
noncomputable def r15_4 : Array Oper := opsAt Tryd.f15 [1, 1, 1, 1, 0]
theorem r15_4_ok : dstOk 115 r15_4.toList = true ∧ r15_4.toList.all (fun o => noDefer o.op) = true := by decide +kernel
noncomputable def r15_5 : Array Oper := opsAt Tryd.f15 [1, 1, 1, 1, 1, 0]
theorem r15_5_ok : dstOk 115 r15_5.toList = true ∧ r15_5.toList.all (fun o => noDefer o.op) = true := by decide +kernel
noncomputable def r15_6 : Array Oper := opsAt Tryd.f15 [1, 1, 1, 1, 1, 1, 0]
theorem r15_6_ok : dstOk 115 r15_6.toList = true ∧ r15_6.toList.all (fun o => noDefer o.op) = true := by decide +kernel
noncomputable def r15_7 : Array Oper := opsAt Tryd.f15 [1, 1, 1, 1, 1, 1, 1, 0, 0]
theorem r15_7_ok : dstOk 115 r15_7.toList = true ∧ r15_7.toList.all (fun o => noDefer o.op) = true := by decide +kernel
noncomputable def r15_8 : Array Oper := opsAt Tryd.f15 [1, 1, 1, 1, 1, 1, 1, 0, 1, 0, 0]
theorem r15_8_ok : dstOk 115 r15_8.toList = true ∧ r15_8.toList.all (fun o => noDefer o.op) = true := by decide +kernel
noncomputable def r15_9 : Array Oper := opsAt Tryd.f15 [1, 1, 1, 1, 1, 1, 1, 1, 0, 0]
theorem r15_9_ok : dstOk 115 r15_9.toList = true ∧ r15_9.toList.all (fun o => noDefer o.op) = true := by decide +kernel
noncomputable def r15_10 : Array Oper := opsAt Tryd.f15 [1, 1, 1, 1, 1, 1, 1, 1, 0, 1, 0, 0]
theorem r15_10_ok : dstOk 115 r15_10.toList = true ∧ r15_10.toList.all (fun o => noDefer o.op) = true := by decide +kernel
noncomputable def r15_11 : Array Oper := opsAt Tryd.f15 [1, 1, 1, 1, 1, 1, 1, 1, 1, 0]
theorem r15_11_ok : dstOk 115 r15_11.toList = true ∧ r15_11.toList.all (fun o => noDefer o.op) = true := by decide +kernel
noncomputable def r15_12 : Array Oper := opsAt Tryd.f15 [1, 1, 1, 1, 1, 1, 1, 1, 1, 1, 0]
theorem r15_12_ok : dstOk 115 r15_12.toList = true ∧ r15_12.toList.all (fun o => noDefer o.op) = true := by decide +kernel
noncomputable def r15_13 : Array Oper := opsAt Tryd.f15 [1, 1, 1, 1, 1, 1, 1, 1, 1, 1, 1, 0]
theorem r15_13_ok : dstOk 115 r15_13.toList = true ∧ r15_13.toList.all (fun o => noDefer o.op) = true := by decide +kernel
noncomputable def c15 : Code := (.seq (.region 0 r15_0 false) (.seq (.region 1 r15_1 false) (.seq (.region 2 r15_2 false) (.seq (.region 3 r15_3 false) (.seq (.region 4 r15_4 false) (.seq (.region 5 r15_5 false) (.seq (.region 6 r15_6 false) (.seq (.seq (.region 7 r15_7 false) (.cond (.tmp 49) (.seq (.region 8 r15_8 false) .ret) .skip)) (.seq (.seq (.region 9 r15_9 false) (.cond (.tmp 77) (.seq (.region 10 r15_10 false) .ret) .skip)) (.seq (.region 11 r15_11 false) (.seq (.region 12 r15_12 false) (.seq (.region 13 r15_13 false) .ret))))))))))))
theorem body15 : Tryd.f15.body = some c15 := by kernel_rfl
theorem awake_ok  : PureCall Tryd.prog GL 15 [] (.raw (.bool true)) := by
  refine pure_of_body Tryd.func15 body15 (Nat.le_of_ble_eq_true rfl) (by simp) (by simp) ?_
  skip
  unfold c15
  refine awp_seq ?_
  refine w_reg (l := r15_0.toList) rfl r15_0_ok ?_
  refine a_op rfl (o_as rfl) ?_
  refine a_nil ?_
  refine tq_n ?_
  refine awp_seq ?_
  refine w_reg (l := r15_1.toList) rfl r15_1_ok ?_
  refine a_pure rfl rfl rfl cb29 (example_ok) ?_
  refine a_op rfl (o_al (N := 0) tz30 rfl rfl rfl) ?_
  refine a_op0 rfl (o_st (N := 3) tn30 rfl rfl rfl rfl rfl) ?_
  refine a_nil ?_
  refine tq_n ?_
  refine awp_seq ?_
  refine w_reg (l := r15_2.toList) rfl r15_2_ok ?_
  refine a_op rfl (o_bd tz37 rfl tp37 rfl rfl) ?_
  refine a_op rfl (o_al (N := 1) tz37 rfl rfl rfl) ?_
  refine a_op0 rfl (o_st (N := 4) tn37 rfl rfl rfl rfl rfl) ?_
  refine a_nil ?_
  refine tq_n ?_
  refine awp_seq ?_
  refine w_reg (l := r15_3.toList) rfl r15_3_ok ?_
  refine a_op rfl (o_bd tz37 rfl tp37 rfl rfl) ?_
  refine a_op rfl (o_al (N := 2) tz37 rfl rfl rfl) ?_
  refine a_op0 rfl (o_st (N := 4) tn37 rfl rfl rfl rfl rfl) ?_
  refine a_nil ?_
  refine tq_n ?_
  refine awp_seq ?_
  refine w_reg (l := r15_4.toList) rfl r15_4_ok ?_
  refine a_op rfl (o_bd tz37 rfl tp37 rfl rfl) ?_
  refine a_op rfl (o_bs tE32 (by decide) rfl rfl rfl) ?_
  refine a_op rfl (o_as rfl) ?_
  refine a_nil ?_
  refine tq_n ?_
  refine awp_seq ?_
  refine w_reg (l := r15_5.toList) rfl r15_5_ok ?_
  refine a_op rfl (o_bd tz37 rfl tp37 rfl rfl) ?_
  refine a_op rfl (o_bs tE32 (by decide) rfl rfl rfl) ?_
  refine a_op rfl (o_as rfl) ?_
  refine a_nil ?_
  refine tq_n ?_
  refine awp_seq ?_
  refine w_reg (l := r15_6.toList) rfl r15_6_ok ?_
  refine a_op rfl ((by first | exact o_ldg tg30 tn30 rfl rfl | exact o_ldpg tg30 tn30 rfl rfl rfl rfl)) ?_
  refine a_op rfl ((by first | exact o_ldg tg37 tn37 rfl rfl | exact o_ldpg tg37 tn37 rfl rfl rfl rfl)) ?_
  refine a_op rfl (o_bs tE32 (by decide) rfl rfl rfl) ?_
  refine a_pureN (vs' := [EX, .sl 5 true ([summer].map ruleAV), .sl 1 false (([] : List Int).map intAV), .raw (.int .i64 11), .raw (.int .i64 0)]) rfl rfl rfl cb17 (aw_next) ⟨.inl rfl, .inl rfl, .inr ⟨rfl, _, _, by decide, rfl⟩, .inl rfl, .inl rfl, trivial⟩ ?_
  refine a_op rfl (o_mv rfl) ?_
  refine a_op rfl (o_ex rfl rfl) ?_
  refine a_op rfl (o_ex rfl rfl) ?_
  refine a_op rfl (o_ex rfl rfl) ?_
  refine a_op rfl (o_as rfl) ?_
  refine a_op rfl (o_as rfl) ?_
  refine a_op rfl (o_as rfl) ?_
  refine a_nil ?_
  refine tq_n ?_
  refine awp_seq ?_
  refine awp_seq ?_
  refine w_reg (l := r15_7.toList) rfl r15_7_ok ?_
  refine a_op rfl ((by first | exact o_ldg tg37 tn37 rfl rfl | exact o_ldpg tg37 tn37 rfl rfl rfl rfl)) ?_
  refine a_op rfl (o_bs tE32 (by decide) rfl rfl rfl) ?_
  refine a_pureNb (vs' := [.sl 5 true (([summer] : List RuleR).map ruleAV), .sl 1 true (([] : List Int).map intAV), .raw (.int .i64 11), .raw (.int .i64 0), .raw (.int .u8 2)]) rfl rfl rfl cb32 (is_true _ _ _ _ _ _ _ (by decide +kernel) (by simp [RuleR.ok, summer, winter, emptyR, weekR])) ⟨.inl rfl, .inr ⟨rfl, _, _, by decide, rfl⟩, .inl rfl, .inl rfl, .inl rfl, trivial⟩ (fun h1 => ?_) (fun h => by cases h)
  refine a_op rfl (o_ntt rfl) ?_
  refine a_op rfl (o_mv rfl) ?_
  refine a_op rfl (o_mv rfl) ?_
  refine a_if rfl (o_ne rfl rfl) (fun h2 => ?_) (fun h3 => ?_)
  · omega
  · refine a_op rfl (o_pkf rfl rfl) ?_
    refine a_op rfl (o_mv rfl) ?_
    refine a_ifb rfl (o_mv rfl) (fun h4 => ?_) (fun h5 => ?_)
    · refine a_op rfl (o_ntt rfl) ?_
      refine a_op rfl (o_pkf rfl rfl) ?_
      refine a_op rfl (o_mv rfl) ?_
      refine a_op rfl (o_mv rfl) ?_
      refine a_if rfl (o_ne rfl rfl) (fun h6 => ?_) (fun h7 => ?_)
      · omega
      · refine a_op rfl (o_pkf rfl rfl) ?_
        refine a_op rfl (o_mv rfl) ?_
        refine a_op rfl ((by first | exact o_ldg tg37 tn37 rfl rfl | exact o_ldpg tg37 tn37 rfl rfl rfl rfl)) ?_
        refine a_op rfl ((by first | exact o_ldg tg37 tn37 rfl rfl | exact o_ldpg tg37 tn37 rfl rfl rfl rfl)) ?_
        refine a_op rfl (o_bs tE32 (by decide) rfl rfl rfl) ?_
        refine a_pureNb (vs' := [.sl 5 true (([summer, winter] : List RuleR).map ruleAV), .sl 1 true (([] : List Int).map intAV), .raw (.int .i64 11), .raw (.int .i64 0), .raw (.int .u8 1)]) rfl rfl rfl cb32 (is_true _ _ _ _ _ _ _ (by decide +kernel) (by simp [RuleR.ok, summer, winter, emptyR, weekR])) ⟨.inl rfl, .inr ⟨rfl, _, _, by decide, rfl⟩, .inl rfl, .inl rfl, .inl rfl, trivial⟩ (fun h8 => ?_) (fun h => by cases h)
        refine a_op rfl (o_ntt rfl) ?_
        refine a_op rfl (o_pkf rfl rfl) ?_
        refine a_nil ?_
        refine tq_n ?_
        refine w_false rfl ?_
        refine awp_skip ?_
        refine tq_n ?_
        refine awp_seq ?_
        refine awp_seq ?_
        refine w_reg (l := r15_9.toList) rfl r15_9_ok ?_
        refine a_op rfl (o_mv rfl) ?_
        refine a_pureNb (vs' := [.sl 5 true (([emptyR] : List RuleR).map ruleAV), .sl 1 true (([] : List Int).map intAV), .raw (.int .i64 12), .raw (.int .i64 0), .raw (.int .u8 3)]) rfl rfl rfl cb32 (is_true _ _ _ _ _ _ _ (by decide +kernel) (by simp [RuleR.ok, summer, winter, emptyR, weekR])) ⟨.inl rfl, .inr ⟨rfl, _, _, by decide, rfl⟩, .inl rfl, .inl rfl, .inl rfl, trivial⟩ (fun h9 => ?_) (fun h => by cases h)
        refine a_op rfl (o_ntt rfl) ?_
        refine a_op rfl (o_mv rfl) ?_
        refine a_op rfl (o_mv rfl) ?_
        refine a_pureNb (vs' := [.sl 5 true (([emptyR] : List RuleR).map ruleAV), .sl 1 true (([] : List Int).map intAV), .raw (.int .i64 12), .raw (.int .i64 9), .raw (.int .u8 3)]) rfl rfl rfl cb32 (is_true _ _ _ _ _ _ _ (by decide +kernel) (by simp [RuleR.ok, summer, winter, emptyR, weekR])) ⟨.inl rfl, .inr ⟨rfl, _, _, by decide, rfl⟩, .inl rfl, .inl rfl, .inl rfl, trivial⟩ (fun h10 => ?_) (fun h => by cases h)
        refine a_op rfl (o_ntt rfl) ?_
        refine a_op rfl (o_pkf rfl rfl) ?_
        refine a_op rfl (o_mv rfl) ?_
        refine a_op rfl (o_mv rfl) ?_
        refine a_pureNb (vs' := [.sl 5 true (([emptyR] : List RuleR).map ruleAV), .sl 1 true (([] : List Int).map intAV), .raw (.int .i64 12), .raw (.int .i64 10), .raw (.int .u8 1)]) rfl rfl rfl cb32 (is_true _ _ _ _ _ _ _ (by decide +kernel) (by simp [RuleR.ok, summer, winter, emptyR, weekR])) ⟨.inl rfl, .inr ⟨rfl, _, _, by decide, rfl⟩, .inl rfl, .inl rfl, .inl rfl, trivial⟩ (fun h11 => ?_) (fun h => by cases h)
        refine a_op rfl (o_ntt rfl) ?_
        refine a_op rfl (o_pkf rfl rfl) ?_
        refine a_op rfl (o_mv rfl) ?_
        refine a_op rfl (o_mv rfl) ?_
        refine a_pureNb (vs' := [.sl 5 true (([weekR] : List RuleR).map ruleAV), .sl 1 true (([] : List Int).map intAV), .raw (.int .i64 12), .raw (.int .i64 4), .raw (.int .u8 1)]) rfl rfl rfl cb32 (is_true _ _ _ _ _ _ _ (by decide +kernel) (by simp [RuleR.ok, summer, winter, emptyR, weekR])) ⟨.inl rfl, .inr ⟨rfl, _, _, by decide, rfl⟩, .inl rfl, .inl rfl, .inl rfl, trivial⟩ (fun h12 => ?_) (fun h => by cases h)
        refine a_op rfl (o_ntt rfl) ?_
        refine a_op rfl (o_pkf rfl rfl) ?_
        refine a_op rfl (o_mv rfl) ?_
        refine a_op rfl (o_mv rfl) ?_
        refine a_pureNb (vs' := [.sl 5 true (([weekR] : List RuleR).map ruleAV), .sl 1 true (([] : List Int).map intAV), .raw (.int .i64 12), .raw (.int .i64 5), .raw (.int .u8 2)]) rfl rfl rfl cb32 (is_true _ _ _ _ _ _ _ (by decide +kernel) (by simp [RuleR.ok, summer, winter, emptyR, weekR])) ⟨.inl rfl, .inr ⟨rfl, _, _, by decide, rfl⟩, .inl rfl, .inl rfl, .inl rfl, trivial⟩ (fun h13 => ?_) (fun h => by cases h)
        refine a_op rfl (o_ntt rfl) ?_
        refine a_op rfl (o_pkf rfl rfl) ?_
        refine a_op rfl (o_mv rfl) ?_
        refine a_op rfl (o_mv rfl) ?_
        refine a_pureNb (vs' := [.sl 5 true (([weekR] : List RuleR).map ruleAV), .sl 1 true (([] : List Int).map intAV), .raw (.int .i64 12), .raw (.int .i64 6), .raw (.int .u8 2)]) rfl rfl rfl cb32 (is_true _ _ _ _ _ _ _ (by decide +kernel) (by simp [RuleR.ok, summer, winter, emptyR, weekR])) ⟨.inl rfl, .inr ⟨rfl, _, _, by decide, rfl⟩, .inl rfl, .inl rfl, .inl rfl, trivial⟩ (fun h14 => ?_) (fun h => by cases h)
        refine a_op rfl (o_ntt rfl) ?_
        refine a_op rfl (o_pkf rfl rfl) ?_
        refine a_nil ?_
        refine tq_n ?_
        refine w_false rfl ?_
        refine awp_skip ?_
        refine tq_n ?_
        refine awp_seq ?_
        refine w_reg (l := r15_11.toList) rfl r15_11_ok ?_
        refine a_op rfl ((by first | exact o_ldg tg30 tn30 rfl rfl | exact o_ldpg tg30 tn30 rfl rfl rfl rfl)) ?_
        refine a_op rfl (o_bs tE34 (by decide) rfl rfl rfl) ?_
        refine a_pureN (vs' := [EX, .sl 5 true (([] : List RuleR).map ruleAV), .sl 1 true ([0].map intAV), .raw (.int .i64 0)]) rfl rfl rfl cb18 (aw_open0) ⟨.inl rfl, .inr ⟨rfl, _, _, by decide, rfl⟩, .inl rfl, .inl rfl, trivial⟩ ?_
        refine a_op rfl (o_mv rfl) ?_
        refine a_op rfl (o_ex rfl rfl) ?_
        refine a_op rfl (o_ex rfl rfl) ?_
        refine a_op rfl (o_as rfl) ?_
        refine a_op rfl (o_as rfl) ?_
        refine a_nil ?_
        refine tq_n ?_
        refine awp_seq ?_
        refine w_reg (l := r15_12.toList) rfl r15_12_ok ?_
        refine a_op rfl ((by first | exact o_ldg tg30 tn30 rfl rfl | exact o_ldpg tg30 tn30 rfl rfl rfl rfl)) ?_
        refine a_op rfl (o_bs tE34 (by decide) rfl rfl rfl) ?_
        refine a_pureN (vs' := [EX, .sl 5 true (([] : List RuleR).map ruleAV), .sl 1 true ([0].map intAV), .raw (.int .i64 1)]) rfl rfl rfl cb18 (aw_open1) ⟨.inl rfl, .inr ⟨rfl, _, _, by decide, rfl⟩, .inl rfl, .inl rfl, trivial⟩ ?_
        refine a_op rfl (o_mv rfl) ?_
        refine a_op rfl (o_ex rfl rfl) ?_
        refine a_op rfl (o_ex rfl rfl) ?_
        refine a_op rfl (o_as rfl) ?_
        refine a_op rfl (o_as rfl) ?_
        refine a_nil ?_
        refine tq_n ?_
        refine awp_seq ?_
        refine w_reg (l := r15_13.toList) rfl r15_13_ok ?_
        refine a_op rfl (o_bs tE34 (by decide) rfl rfl rfl) ?_
        refine a_pureNb (vs' := [.sl 5 true (([] : List RuleR).map ruleAV), .sl 1 true (([0] : List Int).map intAV), .raw (.int .i64 13), .raw (.int .i64 0), .raw (.int .u8 2)]) rfl rfl rfl cb32 (is_true _ _ _ _ _ _ _ (by decide +kernel) (by simp [RuleR.ok, summer, winter, emptyR, weekR])) ⟨.inr ⟨rfl, _, _, by decide, rfl⟩, .inl rfl, .inl rfl, .inl rfl, .inl rfl, trivial⟩ (fun h15 => ?_) (fun h => by cases h)
        refine a_op rfl (o_mv rfl) ?_
        refine a_op rfl (o_bs tE34 (by decide) rfl rfl rfl) ?_
        refine a_pureNb (vs' := [.sl 5 true (([] : List RuleR).map ruleAV), .sl 1 true (([0] : List Int).map intAV), .raw (.int .i64 13), .raw (.int .i64 1), .raw (.int .u8 1)]) rfl rfl rfl cb32 (is_true _ _ _ _ _ _ _ (by decide +kernel) (by simp [RuleR.ok, summer, winter, emptyR, weekR])) ⟨.inr ⟨rfl, _, _, by decide, rfl⟩, .inl rfl, .inl rfl, .inl rfl, .inl rfl, trivial⟩ (fun h16 => ?_) (fun h => by cases h)
        refine a_op rfl (o_pkt rfl rfl) ?_
        refine a_op rfl (o_mv rfl) ?_
        refine a_pureNb (vs' := [.sl 5 true (([] : List RuleR).map ruleAV), .sl 1 true (([] : List Int).map intAV), .raw (.int .i64 99), .raw (.int .i64 0), .raw (.int .u8 0)]) rfl rfl rfl cb32 (is_true _ _ _ _ _ _ _ (by decide +kernel) (by simp [RuleR.ok, summer, winter, emptyR, weekR])) ⟨.inr ⟨rfl, _, _, by decide, rfl⟩, .inr ⟨rfl, _, _, by decide, rfl⟩, .inl rfl, .inl rfl, .inl rfl, trivial⟩ (fun h17 => ?_) (fun h => by cases h)
        refine a_op rfl (o_pkt rfl rfl) ?_
        refine a_op rfl (o_mv rfl) ?_
        refine a_op rfl (o_mv rfl) ?_
        refine a_op rfl (o_mv rfl) ?_
        refine a_op rfl (o_add rfl rfl (by simp only [klo, khi]; omega)) ?_
        refine a_if rfl (o_eq rfl rfl) (fun h18 => ?_) (fun h19 => ?_)
        · refine a_op rfl (o_pkt rfl rfl) ?_
          refine a_op rfl (o_mv rfl) ?_
          refine a_op rfl (o_mv rfl) ?_
          refine a_op rfl (o_bs tE34 (by decide) rfl rfl rfl) ?_
          refine a_pureNb (vs' := [.sl 1 false ([11, 12].map intAV), .sl 1 true ([11, 12].map intAV)]) rfl rfl rfl cb19 (aw_same [11, 12] (by decide)) ⟨.inl rfl, .inl rfl, trivial⟩ (fun h20 => ?_) (fun h => by cases h)
          refine a_op rfl (o_pkt rfl rfl) ?_
          refine a_op rfl (o_mv rfl) ?_
          refine a_op rfl (o_mv rfl) ?_
          refine a_op rfl (o_bs tE34 (by decide) rfl rfl rfl) ?_
          refine a_pureNb (vs' := [.sl 1 false ([11, 12, 13].map intAV), .sl 1 true ([11, 12, 13].map intAV)]) rfl rfl rfl cb19 (aw_same [11, 12, 13] (by decide)) ⟨.inl rfl, .inl rfl, trivial⟩ (fun h21 => ?_) (fun h => by cases h)
          refine a_op rfl (o_pkt rfl rfl) ?_
          refine a_op rfl (o_as rfl) ?_
          refine a_nil ?_
          refine tq_n ?_
          refine awp_ret ?_
          refine r_one rfl ⟨rfl, trivial⟩ ?_
          exact rs_pur (by simp) rfl
        · omega
    · cases h5
end Go.Ab.D
