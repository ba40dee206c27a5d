/- What functions of this program compute, and the laws of what they compute, under the bounds on lengths that each contract states. -/
import Derived.Test.YtegbbhaghlcckaaSD
import Derived.Test.YtegbbhaghlcckaaGD

set_option linter.unusedSimpArgs false
set_option linter.unusedVariables false
namespace Go.Ab.S
open Go Go.Ab Go.Proofs
@[simp] theorem fsh_both (x : BothR) : Fsh (bothAV x) := by simp [bothAV, rowAV, intAV, evAV]
@[simp] theorem fsh_pass (x : MS) : Fsh (passAV x) := by simp [passAV, rowAV, intAV, evAV]
@[simp] theorem fsh_row (l : List Int) : Fsh (rowAV l) := by simp [rowAV, intAV]
theorem rs_rowsT {H : Heap} {keep : Nat → Prop} (rows : List (List Int)) : Rs H keep (.sl 1 true (rows.map fun l => .sl 1 true (l.map intAV))) (.sl 1 true (rows.map rowAV)) := by
  refine .sl (Fl.le_refl _) (by simp) (fun k x x' h1 h2 => ?_) (fun k x x' h1 h2 => ?_)
  · simp only [List.getElem?_map, Option.map_eq_some_iff] at h1 h2
    obtain ⟨a, _, rfl⟩ := h1
    obtain ⟨b, _, rfl⟩ := h2
    rfl
  · simp only [List.getElem?_map, Option.map_eq_some_iff] at h1 h2
    obtain ⟨a, ha, rfl⟩ := h1
    obtain ⟨b, hb, rfl⟩ := h2
    rw [ha] at hb; cases hb
    exact rs_full (pu_int _)
def exP : PlanR := ⟨[5, 5], [⟨5, 2, 0, 0⟩, ⟨6, 2, 1, 0⟩, ⟨7, 3, 0, 1⟩], [5, 2], [4, 3]⟩
def b4T : B4 := ⟨true, true, true, true⟩
def awF : List FeedR := [⟨5, 0⟩, ⟨6, 0⟩, ⟨7, 1⟩, ⟨8, 0⟩, ⟨9, 1⟩, ⟨4, -1⟩]
def awE : List EvR := [⟨1, 5, 0⟩, ⟨1, 6, 0⟩, ⟨1, 7, 1⟩, ⟨2, 8, 0⟩, ⟨1, 8, 0⟩, ⟨3, 9, 1⟩, ⟨4, 4, -1⟩]
def awP : MS := ⟨[[5, 6, 8], [7]], [1, 0], [9], [4], awE, [1, 1], 0⟩
def awI : List ItemR := [⟨1, 7, true, true⟩, ⟨2, 6, true, true⟩, ⟨3, 5, true, true⟩, ⟨4, 7, true, true⟩, ⟨5, 6, true, true⟩]
def awI2 : List ItemR := [⟨1, 7, true, true⟩, ⟨2, 6, true, true⟩, ⟨3, 5, true, true⟩, ⟨4, 7, true, false⟩, ⟨5, 6, true, true⟩]
theorem aw_runE : runF [2, 1] 1 awF = (awP, 0) := by kernel_rfl
theorem aw_run : PureCall Try.prog GL 29 [.sl 1 true ([2, 1].map intAV), .raw (.int .i64 1), .sl 2 true (awF.map feedAV)] (.tup [passAV awP, .raw (.int .i64 0)]) := by
  have := run_ok true [2, 1] (by decide) 1 true awF (by decide)
  rw [aw_runE] at this
  exact this
theorem aw_needE : needF [2, 1] awF = (2, 0) := by kernel_rfl
theorem aw_need : PureCall Try.prog GL 33 [.sl 1 true ([2, 1].map intAV), .sl 2 true (awF.map feedAV)] (.tup [.raw (.int .i64 2), .raw (.int .i64 0)]) := by
  have := need_ok true [2, 1] (by decide) true awF (by decide)
  rw [aw_needE] at this
  exact this
theorem aw_same (xs : List Int) (h : xs.length ≤ 10) : PureCall Try.prog GL 37 [.sl 1 false (xs.map intAV), .sl 1 true (xs.map intAV)] (.raw (.bool true)) := by
  have := sameInts_ok false xs (by omega) true xs (by omega)
  rw [show decide (xs = xs) = true by simp] at this
  exact this
theorem aw_same' (xs ys : List Int) (h : ys.length ≤ 10) (e : xs = ys) : PureCall Try.prog GL 37 [rowAV xs, .sl 1 true (ys.map intAV)] (.raw (.bool true)) := by
  subst e; exact aw_same xs h
theorem aw_listsG (rows : List (List Int)) (h : rows.length ≤ 10) (h2 : ∀ r ∈ rows, r.length ≤ 10) : PureCall Try.prog GL 36 [.sl 1 false (rows.map rowAV), .sl 1 true (rows.map rowAV)] (.raw (.bool true)) := by
  have := lists_ok false rows (by omega) true rows (by omega) (fun r hr => by have := h2 r hr; omega) (fun r hr => by have := h2 r hr; omega)
  rw [show decide (rows = rows) = true by simp] at this
  exact this
def awB1 : BothR := (twoF exP 0 awI).1
def awB2 : BothR := (twoF exP 0 awI2).1
theorem aw_two1 : PureCall Try.prog GL 26 [planAV b4T exP, .raw (.int .i64 0), .sl 4 fL (awI.map itemAV)] (.tup [bothAV awB1, .raw (.int .i64 0)]) := by
  have := two_ok b4T exP (by decide) (by decide) (by decide) (by decide) 0 fL awI (by decide)
  rw [show (twoF exP 0 awI).2 = 0 by kernel_rfl] at this
  exact this
theorem aw_two2 : PureCall Try.prog GL 26 [planAV b4T exP, .raw (.int .i64 0), .sl 4 fL (awI2.map itemAV)] (.tup [bothAV awB2, .raw (.int .i64 0)]) := by
  have := two_ok b4T exP (by decide) (by decide) (by decide) (by decide) 0 fL awI2 (by decide)
  rw [show (twoF exP 0 awI2).2 = 0 by kernel_rfl] at this
  exact this
theorem aw_o1 : awB1.o = [3, 2, 5, 1, 4] := by kernel_rfl
theorem aw_o2 : awB2.o = [3, 2, 5, 1] := by kernel_rfl
theorem aw_r2 : awB2.b.rej = [4] := by kernel_rfl
theorem eq79 : EqOk Try.prog 79 := ⟨by kernel_rfl, by kernel_rfl, by kernel_rfl⟩
theorem scs79 (a b c : Int) : scs Try.prog [.int .u8 a, .int .i64 b, .int .i64 c] (Try.prog.fieldsOf 79).toList = true := by kernel_rfl

noncomputable def r79_0 : Array Oper := opsAt Try.f79 [0]
theorem r79_0_ok : dstOk 9 r79_0.toList = true ∧ r79_0.toList.all (fun o => noDefer o.op) = true := by decide +kernel
noncomputable def r79_1 : Array Oper := opsAt Try.f79 [1, 0]
theorem r79_1_ok : dstOk 9 r79_1.toList = true ∧ r79_1.toList.all (fun o => noDefer o.op) = true := by decide +kernel
noncomputable def c79 : Code := (.seq (.region 0 r79_0 false) (.seq (.region 1 r79_1 false) .ret))
theorem body79 : Try.f79.body = some c79 := by kernel_rfl
theorem plan_ok  : PureCall Try.prog GL 79 [] (planAV b4T exP) := by
  refine pure_of_body Try.func79 body79 (Nat.le_of_ble_eq_true rfl) (by simp) (by simp) ?_
  skip
  unfold c79
  refine awp_seq ?_
  refine w_reg (l := r79_0.toList) rfl r79_0_ok ?_
  refine a_op rfl (o_al (N := 0) tz51 rfl rfl rfl) ?_
  refine a_nil ?_
  refine tq_n ?_
  refine awp_seq ?_
  refine w_reg (l := r79_1.toList) rfl r79_1_ok ?_
  refine a_op rfl (o_bs tE34 (by decide) rfl rfl rfl) ?_
  refine a_op rfl (o_bd tz89 rfl tp89 rfl rfl) ?_
  refine a_op rfl (o_bd tz89 rfl tp89 rfl rfl) ?_
  refine a_op rfl (o_bd tz89 rfl tp89 rfl rfl) ?_
  refine a_op rfl (o_bs tE49 (by decide) rfl rfl rfl) ?_
  refine a_op rfl (o_bs tE34 (by decide) rfl rfl rfl) ?_
  refine a_op rfl (o_bs tE34 (by decide) rfl rfl rfl) ?_
  refine a_op rfl (o_bd tz51 rfl tp51 rfl rfl) ?_
  refine a_op0 rfl (o_st (N := 3) tn51 rfl rfl rfl rfl rfl) ?_
  refine a_nil ?_
  refine tq_n ?_
  refine awp_ret ?_
  refine r_one rfl ⟨c_ag tg51 tn51 rfl rfl, trivial⟩ ?_
  exact rs_pur (by simp) rfl
noncomputable def r32_0 : Array Oper := opsAt Try.f32 [0]
theorem r32_0_ok : dstOk 151 r32_0.toList = true ∧ r32_0.toList.all (fun o => noDefer o.op) = true := by decide +kernel
noncomputable def r32_1 : Array Oper := opsAt Try.f32 [1, 0]
theorem r32_1_ok : dstOk 151 r32_1.toList = true ∧ r32_1.toList.all (fun o => noDefer o.op) = true := by decide +kernel
noncomputable def r32_2 : Array Oper := opsAt Try.f32 [1, 1, 0]
theorem r32_2_ok : dstOk 151 r32_2.toList = true ∧ r32_2.toList.all (fun o => noDefer o.op) = true := by decide +kernel
noncomputable def r32_3 : Array Oper := opsAt Try.f32 [1, 1, 1, 0]
theorem r32_3_ok : dstOk 151 r32_3.toList = true ∧ r32_3.toList.all (fun o => noDefer o.op) = true := by decide +kernel
noncomputable def r32_4 : Array Oper := opsAt Try.f32 [1, 1, 1, 1, 0]
theorem r32_4_ok : dstOk 151 r32_4.toList = true ∧ r32_4.toList.all (fun o => noDefer o.op) = true := by decide +kernel
noncomputable def r32_5 : Array Oper := opsAt Try.f32 [1, 1, 1, 1, 1, 0, 0]
theorem r32_5_ok : dstOk 151 r32_5.toList = true ∧ r32_5.toList.all (fun o => noDefer o.op) = true := by decide +kernel
noncomputable def r32_6 : Array Oper := opsAt Try.f32 [1, 1, 1, 1, 1, 0, 1, 0, 0]
theorem r32_6_ok : dstOk 151 r32_6.toList = true ∧ r32_6.toList.all (fun o => noDefer o.op) = true := by decide +kernel
noncomputable def r32_7 : Array Oper := opsAt Try.f32 [1, 1, 1, 1, 1, 1, 0, 0]
theorem r32_7_ok : dstOk 151 r32_7.toList = true ∧ r32_7.toList.all (fun o => noDefer o.op) = true := by decide +kernel
noncomputable def r32_8 : Array Oper := opsAt Try.f32 [1, 1, 1, 1, 1, 1, 0, 1, 0, 0, 0]
theorem r32_8_ok : dstOk 151 r32_8.toList = true ∧ r32_8.toList.all (fun o => noDefer o.op) = true := by decide +kernel
noncomputable def r32_9 : Array Oper := opsAt Try.f32 [1, 1, 1, 1, 1, 1, 0, 1, 0, 0, 1, 1, 0, 0, 0]
theorem r32_9_ok : dstOk 151 r32_9.toList = true ∧ r32_9.toList.all (fun o => noDefer o.op) = true := by decide +kernel
noncomputable def r32_10 : Array Oper := opsAt Try.f32 [1, 1, 1, 1, 1, 1, 0, 1, 0, 0, 1, 1, 0, 0, 1, 0]
theorem r32_10_ok : dstOk 151 r32_10.toList = true ∧ r32_10.toList.all (fun o => noDefer o.op) = true := by decide +kernel
noncomputable def r32_11 : Array Oper := opsAt Try.f32 [1, 1, 1, 1, 1, 1, 0, 1, 0, 0, 1, 1, 0, 0, 1, 1, 0, 0]
theorem r32_11_ok : dstOk 151 r32_11.toList = true ∧ r32_11.toList.all (fun o => noDefer o.op) = true := by decide +kernel
noncomputable def r32_12 : Array Oper := opsAt Try.f32 [1, 1, 1, 1, 1, 1, 0, 1, 0, 0, 1, 1, 1]
theorem r32_12_ok : dstOk 151 r32_12.toList = true ∧ r32_12.toList.all (fun o => noDefer o.op) = true := by decide +kernel
noncomputable def b32_0 : Code := (.seq (.region 8 r32_8 false) (.seq (.cond (.tmp 94) .skip (.exit 0)) (.seq (.block 1 (.seq (.region 9 r32_9 false) (.seq (.region 10 r32_10 true) (.cond (.tmp 105) (.seq (.region 11 r32_11 false) .ret) .skip)))) (.region 12 r32_12 false))))
noncomputable def r32_13 : Array Oper := opsAt Try.f32 [1, 1, 1, 1, 1, 1, 1, 0]
theorem r32_13_ok : dstOk 151 r32_13.toList = true ∧ r32_13.toList.all (fun o => noDefer o.op) = true := by decide +kernel
noncomputable def r32_14 : Array Oper := opsAt Try.f32 [1, 1, 1, 1, 1, 1, 1, 1, 0]
theorem r32_14_ok : dstOk 151 r32_14.toList = true ∧ r32_14.toList.all (fun o => noDefer o.op) = true := by decide +kernel
noncomputable def r32_15 : Array Oper := opsAt Try.f32 [1, 1, 1, 1, 1, 1, 1, 1, 1, 0]
theorem r32_15_ok : dstOk 151 r32_15.toList = true ∧ r32_15.toList.all (fun o => noDefer o.op) = true := by decide +kernel
noncomputable def r32_16 : Array Oper := opsAt Try.f32 [1, 1, 1, 1, 1, 1, 1, 1, 1, 1, 0]
theorem r32_16_ok : dstOk 151 r32_16.toList = true ∧ r32_16.toList.all (fun o => noDefer o.op) = true := by decide +kernel
noncomputable def r32_17 : Array Oper := opsAt Try.f32 [1, 1, 1, 1, 1, 1, 1, 1, 1, 1, 1, 0]
theorem r32_17_ok : dstOk 151 r32_17.toList = true ∧ r32_17.toList.all (fun o => noDefer o.op) = true := by decide +kernel
noncomputable def c32 : Code := (.seq (.region 0 r32_0 false) (.seq (.region 1 r32_1 false) (.seq (.region 2 r32_2 false) (.seq (.region 3 r32_3 false) (.seq (.region 4 r32_4 false) (.seq (.seq (.region 5 r32_5 false) (.cond (.tmp 90) (.seq (.region 6 r32_6 false) .ret) .skip)) (.seq (.seq (.region 7 r32_7 false) (.block 0 (.loop b32_0))) (.seq (.region 13 r32_13 false) (.seq (.region 14 r32_14 false) (.seq (.region 15 r32_15 false) (.seq (.region 16 r32_16 false) (.seq (.region 17 r32_17 false) .ret))))))))))))
theorem body32 : Try.f32.body = some c32 := by kernel_rfl
theorem awake_ok  : PureCall Try.prog GL 32 [] (.raw (.bool true)) := by
  refine pure_of_body Try.func32 body32 (Nat.le_of_ble_eq_true rfl) (by simp) (by simp) ?_
  skip
  unfold c32
  have hE : awE.length = 7 := rfl
  refine awp_seq ?_
  refine w_reg (l := r32_0.toList) rfl r32_0_ok ?_
  refine a_op rfl (o_as rfl) ?_
  refine a_nil ?_
  refine tq_n ?_
  refine awp_seq ?_
  refine w_reg (l := r32_1.toList) rfl r32_1_ok ?_
  refine a_op rfl (o_bd tz75 rfl tp75 rfl rfl) ?_
  refine a_op rfl (o_bd tz75 rfl tp75 rfl rfl) ?_
  refine a_op rfl (o_bd tz75 rfl tp75 rfl rfl) ?_
  refine a_op rfl (o_bd tz75 rfl tp75 rfl rfl) ?_
  refine a_op rfl (o_bd tz75 rfl tp75 rfl rfl) ?_
  refine a_op rfl (o_bd tz75 rfl tp75 rfl rfl) ?_
  refine a_op rfl (o_bs tE68 (by decide) rfl rfl rfl) ?_
  refine a_op rfl (o_as rfl) ?_
  refine a_nil ?_
  refine tq_n ?_
  refine awp_seq ?_
  refine w_reg (l := r32_2.toList) rfl r32_2_ok ?_
  refine a_op rfl (o_bs tE34 (by decide) rfl rfl rfl) ?_
  refine a_op rfl (o_mv rfl) ?_
  refine a_pure rfl rfl rfl cb29 aw_run ?_
  refine a_op rfl (o_mv rfl) ?_
  refine a_op rfl (o_ex rfl rfl) ?_
  refine a_op rfl (o_ex rfl rfl) ?_
  refine a_op rfl (o_al (N := 0) tz60 rfl rfl rfl) ?_
  refine a_op0 rfl (o_st (N := 4) tn60 rfl rfl rfl rfl rfl) ?_
  refine a_op rfl (o_as rfl) ?_
  refine a_nil ?_
  refine tq_n ?_
  refine awp_seq ?_
  refine w_reg (l := r32_3.toList) rfl r32_3_ok ?_
  refine a_op rfl (o_bs tE34 (by decide) rfl rfl rfl) ?_
  refine a_op rfl (o_mv rfl) ?_
  refine a_pure rfl rfl rfl cb33 aw_need ?_
  refine a_op rfl (o_mv rfl) ?_
  refine a_op rfl (o_ex rfl rfl) ?_
  refine a_op rfl (o_ex rfl rfl) ?_
  refine a_op rfl (o_as rfl) ?_
  refine a_op rfl (o_as rfl) ?_
  refine a_nil ?_
  refine tq_n ?_
  refine awp_seq ?_
  refine w_reg (l := r32_4.toList) rfl r32_4_ok ?_
  refine a_op rfl (o_bd tz79 rfl tp79 rfl rfl) ?_
  refine a_op rfl (o_bd tz79 rfl tp79 rfl rfl) ?_
  refine a_op rfl (o_bd tz79 rfl tp79 rfl rfl) ?_
  refine a_op rfl (o_bd tz79 rfl tp79 rfl rfl) ?_
  refine a_op rfl (o_bd tz79 rfl tp79 rfl rfl) ?_
  refine a_op rfl (o_bd tz79 rfl tp79 rfl rfl) ?_
  refine a_op rfl (o_bd tz79 rfl tp79 rfl rfl) ?_
  refine a_op rfl (o_bs tE58 (by decide) rfl rfl rfl) ?_
  refine a_op rfl (o_as rfl) ?_
  refine a_nil ?_
  refine tq_n ?_
  refine awp_seq ?_
  refine awp_seq ?_
  refine w_reg (l := r32_5.toList) rfl r32_5_ok ?_
  refine a_op rfl (o_mv rfl) ?_
  refine a_op rfl (o_mv rfl) ?_
  refine a_op rfl (o_add rfl rfl (by simp only [klo, khi]; omega)) ?_
  refine a_op rfl (elD (o_ne rfl rfl) (w := .raw (.bool false)) rfl) ?_
  refine a_op rfl (o_mv rfl) ?_
  refine a_op rfl (o_mv rfl) ?_
  refine a_op rfl (elD (o_ne rfl rfl) (w := .raw (.bool false)) rfl) ?_
  refine a_op rfl (o_pkf rfl rfl) ?_
  refine a_op rfl (o_mv rfl) ?_
  refine a_op rfl ((by first | exact o_fa tf60_0 rfl rfl | exact o_fap tf60_0 rfl rfl)) ?_
  refine a_op rfl ((by first | exact o_ld tg57 rfl rfl | exact o_ldp tg57 rfl rfl rfl rfl)) ?_
  refine a_op rfl (o_bs tE34 (by decide) rfl rfl rfl) ?_
  refine a_op rfl (o_bs tE34 (by decide) rfl rfl rfl) ?_
  refine a_op rfl (o_bs tE57 (by decide) rfl rfl rfl) ?_
  refine a_lend (vs' := [.sl 1 false ([[5, 6, 8], [7]].map rowAV), .sl 1 true ([[5, 6, 8], [7]].map rowAV)]) rfl rfl rfl cb36 (aw_listsG [[5, 6, 8], [7]] (by decide) (by decide)) ⟨rs_pur (by simp) rfl, rs_rowsT [[5, 6, 8], [7]], trivial⟩ (by simp) ?_
  refine a_op rfl (o_ntt rfl) ?_
  refine a_op rfl (o_pkf rfl rfl) ?_
  refine a_op rfl (o_mv rfl) ?_
  refine a_op rfl ((by first | exact o_fa tf60_1 rfl rfl | exact o_fap tf60_1 rfl rfl)) ?_
  refine a_op rfl ((by first | exact o_ld tg34 rfl rfl | exact o_ldp tg34 rfl rfl rfl rfl)) ?_
  refine a_op rfl (o_bs tE34 (by decide) rfl rfl rfl) ?_
  refine a_pure rfl rfl rfl cb37 (aw_same [1, 0] (by decide)) ?_
  refine a_op rfl (o_ntt rfl) ?_
  refine a_op rfl (o_pkf rfl rfl) ?_
  refine a_op rfl (o_mv rfl) ?_
  refine a_op rfl ((by first | exact o_fa tf60_2 rfl rfl | exact o_fap tf60_2 rfl rfl)) ?_
  refine a_op rfl ((by first | exact o_ld tg34 rfl rfl | exact o_ldp tg34 rfl rfl rfl rfl)) ?_
  refine a_op rfl (o_bs tE34 (by decide) rfl rfl rfl) ?_
  refine a_pure rfl rfl rfl cb37 (aw_same [9] (by decide)) ?_
  refine a_op rfl (o_ntt rfl) ?_
  refine a_op rfl (o_pkf rfl rfl) ?_
  refine a_op rfl (o_mv rfl) ?_
  refine a_op rfl ((by first | exact o_fa tf60_3 rfl rfl | exact o_fap tf60_3 rfl rfl)) ?_
  refine a_op rfl ((by first | exact o_ld tg34 rfl rfl | exact o_ldp tg34 rfl rfl rfl rfl)) ?_
  refine a_op rfl (o_bs tE34 (by decide) rfl rfl rfl) ?_
  refine a_pure rfl rfl rfl cb37 (aw_same [4] (by decide)) ?_
  refine a_op rfl (o_ntt rfl) ?_
  refine a_op rfl (o_pkf rfl rfl) ?_
  refine a_op rfl (o_mv rfl) ?_
  refine a_op rfl ((by first | exact o_fa tf60_4 rfl rfl | exact o_fap tf60_4 rfl rfl)) ?_
  refine a_op rfl ((by first | exact o_ld tg58 rfl rfl | exact o_ldp tg58 rfl rfl rfl rfl)) ?_
  refine a_op rfl (o_len rfl rfl (by first | exact List.length_map .. | rfl) tl58) ?_
  refine a_op rfl (o_mv rfl) ?_
  refine a_op rfl (o_len rfl rfl (by first | exact List.length_map .. | rfl) tl58) ?_
  refine a_op rfl (elD (o_ne rfl rfl) (w := .raw (.bool false)) rfl) ?_
  refine a_op rfl (o_pkf rfl rfl) ?_
  refine a_op rfl (o_mv rfl) ?_
  refine a_op rfl ((by first | exact o_ldg tg60 tn60 rfl rfl | exact o_ldpg tg60 tn60 rfl rfl rfl rfl)) ?_
  refine a_pure rfl rfl rfl cb31 (leave_ok awP (by decide) (by decide)) ?_
  refine a_op rfl (o_bs tE34 (by decide) rfl rfl rfl) ?_
  refine a_pure rfl rfl rfl cb37 (aw_same [5, 6, 8, 7] (by decide)) ?_
  refine a_op rfl (o_ntt rfl) ?_
  refine a_op rfl (o_pkf rfl rfl) ?_
  refine a_nil ?_
  refine tq_n ?_
  refine w_false rfl ?_
  refine awp_skip ?_
  refine tq_n ?_
  refine awp_seq ?_
  refine awp_seq ?_
  refine w_reg (l := r32_7.toList) rfl r32_7_ok ?_
  refine a_op rfl (o_mv rfl) ?_
  refine a_op rfl (o_len rfl rfl (by first | exact List.length_map .. | rfl) tl58) ?_
  refine a_op rfl (o_mv rfl) ?_
  refine a_nil ?_
  refine tq_n ?_
  refine awp_block ?_
  refine w_loop (fun i : Nat => i ≤ awE.length) (fun i => [(2, .ptr 0 0), (6, .sl 3 true (awE.map evAV)), (92, .raw (.int .i64 ((awE.length : Nat) : Int))), (93, .raw (.int .i64 ((i : Nat) : Int)))]) (fun _ => [.var (passAV awP).cells]) (fun i => awE.length - i) (0) (by decide) ⟨(by first | exact sub_int rfl (by omega) | rfl), (by first | exact sub_int rfl (by omega) | rfl), (by first | exact sub_int rfl (by omega) | rfl), (by first | exact sub_int rfl (by omega) | rfl), trivial⟩ rfl ?_
  intro i hp
  unfold b32_0
  refine awp_seq ?_
  refine w_reg (l := r32_8.toList) rfl r32_8_ok ?_
  refine a_if rfl (o_lt rfl rfl) (fun h1 => ?_) (fun h2 => ?_)
  · refine a_nil ?_
    refine tq_n ?_
    refine awp_seq ?_
    refine w_true rfl ?_
    refine awp_skip ?_
    refine tq_n ?_
    refine awp_seq ?_
    refine awp_block ?_
    refine awp_seq ?_
    have hi : i < awE.length := by omega
    refine w_reg (l := r32_9.toList) rfl r32_9_ok ?_
    refine a_op rfl (o_mv rfl) ?_
    refine a_op rfl (o_as rfl) ?_
    refine a_nil ?_
    refine tq_n ?_
    refine awp_seq ?_
    refine awp_draw ⟨[[], [0], [], [0, 1, 2], [0, 1, 2, 3], [], [], [5, 6], [5, 6, 7], [0, 1, 2, 3, 4, 5, 6, 7, 8]], [[2], [96], [7], [97, 98], [99], [6], [7], [101, 102], [103], [100, 104]], [[], [0], [], [], [], [], [], [], [], []], [none, none, none, none, none, none, none, none, none, none]⟩ mo r32_10_ok (by decide +kernel) (l := r32_10.toList) rfl ?_
    refine d_op rfl rfl rfl (fun _ => (by first | exact o_fa tf60_4 rfl rfl | exact o_fap tf60_4 rfl rfl)) ?_
    refine d_op rfl rfl rfl (fun _ => (by first | exact o_ld tg58 rfl rfl | exact o_ldp tg58 rfl rfl rfl rfl)) ?_
    refine d_op rfl rfl rfl (fun _ => o_mv rfl) ?_
    refine d_op rfl rfl rfl (fun _ => o_ix te58 tn79 rfl rfl rfl (ixm evAV awE _ hi)) ?_
    refine d_op rfl rfl rfl (fun _ => (by first | exact o_ldg tg79 tn79 rfl rfl | exact o_ldpg tg79 tn79 rfl rfl rfl rfl)) ?_
    refine d_op rfl rfl rfl (fun _ => o_mv rfl) ?_
    refine d_op rfl rfl rfl (fun _ => o_mv rfl) ?_
    refine d_op rfl rfl rfl (fun _ => o_ix te58 tn79 rfl rfl rfl (ixm evAV awE _ hi)) ?_
    refine d_op rfl rfl rfl (fun _ => (by first | exact o_ldg tg79 tn79 rfl rfl | exact o_ldpg tg79 tn79 rfl rfl rfl rfl)) ?_
    refine d_op rfl rfl rfl (fun _ => o_sne eq79 rfl rfl rfl (scs79 ..)) ?_
    refine d_nil ?_
    refine tq_n ?_
    refine w_false rfl ?_
    refine awp_skip ?_
    refine bq_n ?_
    refine tq_n ?_
    refine w_reg (l := r32_12.toList) rfl r32_12_ok ?_
    refine a_op rfl (o_add rfl rfl (by simp only [klo, khi]; omega)) ?_
    refine a_op rfl (o_mv rfl) ?_
    refine a_nil ?_
    refine tq_n ?_
    exact ⟨i + 1, ⟨by omega, by omega⟩, ⟨(by first | exact sub_int rfl (by omega) | rfl), (by first | exact sub_int rfl (by omega) | rfl), (by first | exact sub_int rfl (by omega) | rfl), (by first | exact sub_int rfl (by omega) | rfl), trivial⟩, rfl⟩
  refine a_nil ?_
  refine tq_n ?_
  refine awp_seq ?_
  refine w_false rfl ?_
  refine awp_exit ?_
  refine tq_x ?_
  refine tq_x ?_
  refine bq_hit ?_
  refine tq_n ?_
  refine awp_seq ?_
  refine w_reg (l := r32_13.toList) rfl r32_13_ok ?_
  refine a_op rfl (o_bd tz45 rfl tp45 rfl rfl) ?_
  refine a_op rfl (o_bd tz45 rfl tp45 rfl rfl) ?_
  refine a_op rfl (o_bd tz45 rfl tp45 rfl rfl) ?_
  refine a_op rfl (o_bd tz45 rfl tp45 rfl rfl) ?_
  refine a_op rfl (o_bd tz45 rfl tp45 rfl rfl) ?_
  refine a_opH rfl (o_bso (N := 1) tE43 (by decide) rfl rfl rfl rfl rfl) (H' := [.var (passAV awP).cells, .vec 4 0 (awI.map itemAV)]) rfl ?_
  refine a_op rfl (o_as rfl) ?_
  refine a_nil ?_
  refine tq_n ?_
  refine awp_seq ?_
  refine w_reg (l := r32_14.toList) rfl r32_14_ok ?_
  refine a_pure rfl rfl rfl cb79 plan_ok ?_
  refine a_op rfl (o_mv rfl) ?_
  refine a_lendF (vs' := [planAV b4T exP, .raw (.int .i64 0), .sl 4 fL (awI.map itemAV)]) rfl rfl rfl cb26 aw_two1 ⟨ln_eq (by simp) rfl, ln_eq (by simp) rfl, ln_slo (i := 1) rfl rfl (pu_item _) rfl, trivial⟩ (by simp) ?_
  refine a_op rfl (o_mv rfl) ?_
  refine a_op rfl (o_ex rfl rfl) ?_
  refine a_op rfl (o_ex rfl rfl) ?_
  refine a_op rfl (o_al (N := 2) tz62 rfl rfl rfl) ?_
  refine a_op0 rfl (o_st (N := 10) tn62 rfl rfl rfl rfl rfl) ?_
  refine a_op rfl (o_as rfl) ?_
  refine a_nil ?_
  refine tq_n ?_
  refine awp_seq ?_
  refine w_reg (l := r32_15.toList) rfl r32_15_ok ?_
  refine a_op rfl (o_mv rfl) ?_
  refine a_op rfl (o_ixo (j := 3) te43 tn45 rfl rfl rfl rfl (by decide)) ?_
  refine a_op rfl ((by first | exact o_fa tf45_3 rfl rfl | exact o_fap tf45_3 rfl rfl)) ?_
  refine a_opH0 rfl (o_stp (N := 0) (el := itemAV ⟨4, 7, true, true⟩) tn4 rfl rfl rfl rfl rfl rfl rfl (by decide)) (H' := [.var (passAV awP).cells, .vec 4 0 (awI2.map itemAV), .var (bothAV awB1).cells]) rfl ?_
  refine a_nil ?_
  refine tq_n ?_
  refine awp_seq ?_
  refine w_reg (l := r32_16.toList) rfl r32_16_ok ?_
  refine a_pure rfl rfl rfl cb79 plan_ok ?_
  refine a_op rfl (o_mv rfl) ?_
  refine a_lendF (vs' := [planAV b4T exP, .raw (.int .i64 0), .sl 4 fL (awI2.map itemAV)]) rfl rfl rfl cb26 aw_two2 ⟨ln_eq (by simp) rfl, ln_eq (by simp) rfl, ln_slo (i := 1) rfl rfl (pu_item _) rfl, trivial⟩ (by simp) ?_
  refine a_op rfl (o_mv rfl) ?_
  refine a_op rfl (o_ex rfl rfl) ?_
  refine a_op rfl (o_ex rfl rfl) ?_
  refine a_op rfl (o_al (N := 3) tz62 rfl rfl rfl) ?_
  refine a_op0 rfl (o_st (N := 10) tn62 rfl rfl rfl rfl rfl) ?_
  refine a_op rfl (o_as rfl) ?_
  refine a_nil ?_
  refine tq_n ?_
  refine awp_seq ?_
  refine w_reg (l := r32_17.toList) rfl r32_17_ok ?_
  refine a_op rfl (o_mv rfl) ?_
  refine a_op rfl (o_mv rfl) ?_
  refine a_op rfl (o_add rfl rfl (by simp only [klo, khi]; omega)) ?_
  refine a_op rfl (elD (o_eq rfl rfl) (w := .raw (.bool true)) rfl) ?_
  refine a_op rfl (o_mv rfl) ?_
  refine a_op rfl ((by first | exact o_fa tf62_2 rfl rfl | exact o_fap tf62_2 rfl rfl)) ?_
  refine a_op rfl ((by first | exact o_ld tg34 rfl rfl | exact o_ldp tg34 rfl rfl rfl rfl)) ?_
  refine a_op rfl (o_bs tE34 (by decide) rfl rfl rfl) ?_
  refine a_pure rfl rfl rfl cb37 (aw_same' awB1.o [3, 2, 5, 1, 4] (by decide) aw_o1) ?_
  refine a_op rfl (o_pkt rfl rfl) ?_
  refine a_op rfl (o_mv rfl) ?_
  refine a_op rfl ((by first | exact o_fa tf62_2 rfl rfl | exact o_fap tf62_2 rfl rfl)) ?_
  refine a_op rfl ((by first | exact o_ld tg34 rfl rfl | exact o_ldp tg34 rfl rfl rfl rfl)) ?_
  refine a_op rfl (o_bs tE34 (by decide) rfl rfl rfl) ?_
  refine a_pure rfl rfl rfl cb37 (aw_same' awB2.o [3, 2, 5, 1] (by decide) aw_o2) ?_
  refine a_op rfl (o_pkt rfl rfl) ?_
  refine a_op rfl (o_mv rfl) ?_
  refine a_op rfl ((by first | exact o_fa tf62_1 rfl rfl | exact o_fap tf62_1 rfl rfl)) ?_
  refine a_op rfl ((by first | exact o_fa tf60_3 rfl rfl | exact o_fap tf60_3 rfl rfl)) ?_
  refine a_op rfl ((by first | exact o_ld tg34 rfl rfl | exact o_ldp tg34 rfl rfl rfl rfl)) ?_
  refine a_op rfl (o_bs tE34 (by decide) rfl rfl rfl) ?_
  refine a_pure rfl rfl rfl cb37 (aw_same' awB2.b.rej [4] (by decide) aw_r2) ?_
  refine a_op rfl (o_pkt rfl rfl) ?_
  refine a_op rfl (o_as rfl) ?_
  refine a_nil ?_
  refine tq_n ?_
  refine awp_ret ?_
  refine r_one rfl ⟨rfl, trivial⟩ ?_
  exact rs_pur (by simp) rfl
end Go.Ab.S
namespace Go.Ab.S
open Go Go.Ab Go.Proofs

/-! ### machines and feeds in small numbers -/
theorem machF_in {l : List Int} (hx : ∀ x ∈ l, u8r x) : 0 < (machF l).length ∧ (machF l).length ≤ 12 ∧ ∀ c ∈ machF l, 1 ≤ c ∧ c ≤ 16 := by
  have h1 : ∀ c ∈ machL l, 1 ≤ c ∧ c ≤ 16 := fun c hc => by
    obtain ⟨x, hx', rfl⟩ := List.mem_map.1 hc
    omega
  unfold machF
  split
  · exact ⟨by decide, by decide, by decide⟩
  · rename_i hne
    exact ⟨List.length_pos_iff.2 hne, by simp [machL]; omega, h1⟩
theorem machF_right {l : List Int} (hx : ∀ x ∈ l, u8r x) : rightF (machF l) = true := by
  obtain ⟨h1, h2, h3⟩ := machF_in hx
  simp only [rightF, Bool.and_eq_true, decide_eq_true_eq, Bool.not_eq_true', List.any_eq_false]
  refine ⟨⟨h1, by omega⟩, fun c hc => ?_⟩
  have := h3 c hc
  simp [badC]; omega
def idN (i : Nat) : Int := 1 + (37 * (i : Int)) % 151
theorem idN_nodup : ((List.range 150).map idN).Nodup := by decide +kernel
theorem fedG_ids (n : Nat) : ∀ (l : List Int) (i : Nat), (fedG n i l).map (·.item) = (List.range' i l.length).map idN
  | [], _ => rfl
  | x :: t, i => by simp only [fedG, List.map_cons, List.length_cons, List.range'_succ, fedG_ids n t (i + 1)]; rfl
theorem fedF_len (cs l : List Int) : (fedF cs l).length = min l.length 150 := by simp [fedF, fedG_len]; omega
theorem fedF_ids (cs l : List Int) : (fedF cs l).map (·.item) = (List.range (min l.length 150)).map idN := by
  rw [fedF, fedG_ids, List.range_eq_range']; simp [Nat.min_comm]
theorem fedF_nodup (cs l : List Int) : ((fedF cs l).map (·.item)).Nodup := by
  rw [fedF_ids]
  refine List.Nodup.sublist (List.Sublist.map _ ?_) idN_nodup
  have h : ∀ n, n ≤ 150 → List.Sublist (List.range n) (List.range 150) := fun n hn => by
    rw [show (150 : Nat) = n + (150 - n) by omega, List.range_add]
    exact List.sublist_append_left _ _
  exact h _ (by omega)
theorem fedG_in {n : Nat} : ∀ (l : List Int) (i : Nat), ∀ x ∈ fedG n i l, -1 ≤ x.stk ∧ x.stk < n
  | [], _, x, h => by cases h
  | y :: t, i, x, h => by
    rw [fedG, List.mem_cons] at h
    rcases h with rfl | h
    · have h1 := Int.emod_nonneg y (show (n : Int) + 1 ≠ 0 by omega)
      have h2 := Int.emod_lt_of_pos y (show 0 < (n : Int) + 1 by omega)
      dsimp only; omega
    · exact fedG_in t (i + 1) x h
theorem fedF_in (cs l : List Int) : ∀ x ∈ fedF cs l, -1 ≤ x.stk ∧ x.stk < cs.length := fedG_in _ _
theorem idN_in (i : Nat) : 1 ≤ idN i ∧ idN i ≤ 999999 := by unfold idN; omega
theorem diffF_of {xs : List Int} (h : xs.Nodup) (h2 : ∀ x ∈ xs, 1 ≤ x ∧ x ≤ 999999) : diffF xs = true := by
  simp only [diffF, Bool.and_eq_true, decide_eq_true_eq, List.all_eq_true]
  exact ⟨h, h2⟩
theorem wrongF_of {n : Nat} {l : List FeedR} (h1 : l.length ≤ 2000) (h2 : ∀ x ∈ l, -1 ≤ x.stk ∧ x.stk < n) (h3 : (l.map (·.item)).Nodup) (h4 : ∀ x ∈ l.map (·.item), 1 ≤ x ∧ x ≤ 999999) : wrongF n l = 0 := by
  rw [wrongF, if_neg (by omega), if_neg, if_pos (diffF_of h3 h4)]
  rw [List.any_eq_true]
  rintro ⟨x, hx, hb⟩
  have := h2 x hx
  simp [badF] at hb
  omega
theorem fedF_wrong (cs l : List Int) : wrongF cs.length (fedF cs l) = 0 := by
  refine wrongF_of (by rw [fedF_len]; omega) (fedF_in cs l) (fedF_nodup cs l) (fun x hx => ?_)
  rw [fedF_ids] at hx
  obtain ⟨i, _, rfl⟩ := List.mem_map.1 hx
  exact idN_in i
theorem runF_good {cs : List Int} {sw : Int} {l : List FeedR} (hr : rightF cs = true) (h0 : 0 ≤ sw) (h1 : sw ≤ 1000) (hw : wrongF cs.length l = 0) : runF cs sw l = (playF cs sw l, 0) := by
  rw [runF, if_pos hr, if_neg (by omega), if_pos hw]
theorem run_good (b : Fl) (cs : List Int) (sw : Int) (b2 : Fl) (l : List FeedR) (hr : rightF cs = true) (h0 : 0 ≤ sw) (h1 : sw ≤ 1000) (hw : wrongF cs.length l = 0) :
    PureCall Try.prog GL 29 [.sl 1 b (cs.map intAV), .raw (.int .i64 sw), .sl 2 b2 (l.map feedAV)] (.tup [passAV (playF cs sw l), .raw (.int .i64 0)]) := by
  have h2 := rightF_le hr
  have h3 := (wrongF_in hw).1
  have := run_ok b cs (by omega) sw b2 l (by omega)
  rw [runF_good hr h0 h1 hw] at this
  exact this

/-! ### SorterKeeps, place by place -/
theorem sum_take_succ {l : List Int} {k : Nat} (h : k < l.length) : (l.take (k + 1)).sum = (l.take k).sum + l[k] := by
  rw [List.take_succ_eq_append_getElem h, List.sum_append]; simp
theorem sum_take_le {l : List Int} (h : ∀ v ∈ l, 0 ≤ v) : ∀ k, 0 ≤ (l.take k).sum ∧ (l.take k).sum ≤ l.sum := by
  have hn : ∀ m : List Int, (∀ v ∈ m, 0 ≤ v) → 0 ≤ m.sum := fun m hm => by
    induction m with
    | nil => simp
    | cons a t ih => have := ih (fun v hv => hm v (by simp [hv])); have := hm a (by simp); simp only [List.sum_cons]; omega
  intro k
  have h1 := hn (l.take k) (fun v hv => h v (List.mem_of_mem_take hv))
  have h2 := hn (l.drop k) (fun v hv => h v (List.mem_of_mem_drop hv))
  have h3 : l.sum = (l.take k).sum + (l.drop k).sum := by rw [← List.sum_append, List.take_append_drop]
  omega
section
variable {cs : List Int} {sw : Int} {l : List FeedR}
theorem mAtD {l : List Int} {k : Nat} {v : Int} (h : k < l.length) (e : l.getD k 0 = v) : (l.map intAV)[0 + k]? = some (intAV v) := by
  rw [Nat.zero_add, mAt h, ← e, getDi h]
theorem atK_set {s t : MS} {k : Nat} {v : Int} (h : atK t = (atK s).set k v) : ((atK s).map intAV).set (0 + k) (intAV v) = (atK t).map intAV := by
  rw [h, Nat.zero_add, List.map_set]
theorem atK_new (cs : List Int) (sw : Int) : (atK (newM cs sw)).map intAV = List.replicate (cs.length + 2) (.raw (.int .i64 0)) := by
  simp [atK, newM, intAV, List.replicate_succ']
theorem keep_rej' (h0 : 0 ≤ sw) (hpos : ∀ c ∈ cs, 1 ≤ c) (hin : ∀ x ∈ l, x.stk < cs.length) {i : Nat} (hi : i < l.length) (hx : l[i].stk < 0) :
    ∃ h : (playS cs sw l i).rej.length < (playF cs sw l).rej.length, (playF cs sw l).rej[(playS cs sw l i).rej.length] = l[i].item ∧
      atK (playS cs sw l (i + 1)) = (atK (playS cs sw l i)).set cs.length (((playS cs sw l i).rej.length : Int) + 1) := by
  obtain ⟨a, b, c⟩ := keep_rej h0 hpos hin hi hx
  exact ⟨a, by rw [← getDi a]; exact b, c⟩
theorem keep_yes (h0 : 0 ≤ sw) (hpos : ∀ c ∈ cs, 1 ≤ c) (hin : ∀ x ∈ l, x.stk < cs.length) (hd : (l.map (·.item)).Nodup) {i k : Nat} (hi : i < l.length) (hk : l[i].stk = k) (hkr : k < (playF cs sw l).rows.length) {n : Nat} (hn : n = ((playS cs sw l i).rows.getD k []).length)
    (h1 : n < (playF cs sw l).rows[k].length) (h2 : (playF cs sw l).rows[k][n] = l[i].item) : atK (playS cs sw l (i + 1)) = (atK (playS cs sw l i)).set k ((n : Int) + 1) := by
  subst hn
  rcases keep_stk h0 hpos hin hd hi hk with h | h
  · exact h.2.2
  · refine absurd ⟨?_, ?_⟩ h.1
    · rw [getDg (l := (playF cs sw l).rows) hkr]; exact h1
    · rw [getDg (l := (playF cs sw l).rows) hkr, getDi h1]; exact h2
theorem keep_no (h0 : 0 ≤ sw) (hpos : ∀ c ∈ cs, 1 ≤ c) (hin : ∀ x ∈ l, x.stk < cs.length) (hd : (l.map (·.item)).Nodup) {i k : Nat} (hi : i < l.length) (hk : l[i].stk = k) (hkr : k < (playF cs sw l).rows.length) {n : Nat} (hn : n = ((playS cs sw l i).rows.getD k []).length)
    (h1 : ∀ h : n < (playF cs sw l).rows[k].length, (playF cs sw l).rows[k][n] ≠ l[i].item) :
    ∃ h : (playS cs sw l i).over.length < (playF cs sw l).over.length, (playF cs sw l).over[(playS cs sw l i).over.length] = l[i].item ∧
      atK (playS cs sw l (i + 1)) = (atK (playS cs sw l i)).set (cs.length + 1) (((playS cs sw l i).over.length : Int) + 1) := by
  subst hn
  rcases keep_stk h0 hpos hin hd hi hk with h | h
  · obtain ⟨a, b, _⟩ := h
    rw [getDg (l := (playF cs sw l).rows) hkr] at a b
    rw [getDi a] at b
    exact absurd b (h1 a)
  · obtain ⟨_, a, b, c⟩ := h
    exact ⟨a, by rw [← getDi a]; exact b, c⟩
end

/-! ### places -/
def ones (l : List Int) : List (Int × Int) := l.foldl (fun m x => mput m x 1) []
theorem ones_snoc (l : List Int) (x : Int) : ones (l ++ [x]) = mput (ones l) x 1 := by simp [ones, List.foldl_append]
theorem snoc_ind {α : Type} {P : List α → Prop} (h0 : P []) (h1 : ∀ l x, P l → P (l ++ [x])) : ∀ l, P l := by
  intro l
  generalize hn : l.length = n
  induction n generalizing l with
  | zero => have : l = [] := List.length_eq_zero_iff.1 hn
            subst this; exact h0
  | succ n ih =>
    have hne : l ≠ [] := fun h => by subst h; simp at hn
    obtain ⟨m, x, rfl⟩ : ∃ m x, l = m ++ [x] := ⟨l.dropLast, l.getLast hne, (List.dropLast_concat_getLast hne).symm⟩
    exact h1 m x (ih m (by simpa using hn))
theorem ones_get (l : List Int) (k : Int) : mget (ones l) k = if k ∈ l then some 1 else none := by
  induction l using snoc_ind with
  | h0 => simp [ones, mget]
  | h1 l x ih =>
    rw [ones_snoc, mget_put, ih]
    by_cases h : x = k
    · simp [h]
    · rw [if_neg h]
      have : k ∈ l ++ [x] ↔ k ∈ l := by simp [Ne.symm h]
      simp [this]
theorem ones_len {l : List Int} (h : l.Nodup) : (ones l).length = l.length := by
  induction l using snoc_ind with
  | h0 => rfl
  | h1 l x ih =>
    rw [List.nodup_append] at h
    rw [ones_snoc, mput_len_none, ih h.1]
    · simp
    · rw [ones_get, if_neg]
      intro hx
      exact h.2.2 x hx x (by simp) rfl
theorem nodup_at {all : List (List Int)} {i j : Nat} (hd : all.flatten.Nodup) (hi : i < all.length) (hj : j < all[i].length) : all[i][j] ∉ (all.take i).flatten ++ all[i].take j := by
  have h1 : all.flatten = ((all.take i).flatten ++ all[i].take j) ++ (all[i][j] :: (all[i].drop (j + 1) ++ (all.drop (i + 1)).flatten)) := by
    have e1 : all = all.take i ++ (all[i] :: all.drop (i + 1)) := by
      rw [← List.drop_eq_getElem_cons hi, List.take_append_drop]
    have e2 : all[i] = all[i].take j ++ (all[i][j] :: all[i].drop (j + 1)) := by
      rw [← List.drop_eq_getElem_cons hj, List.take_append_drop]
    calc all.flatten = (all.take i ++ (all[i] :: all.drop (i + 1))).flatten := by rw [← e1]
      _ = (all.take i).flatten ++ (all[i] ++ (all.drop (i + 1)).flatten) := by simp only [List.flatten_append, List.flatten_cons]
      _ = _ := by conv => lhs; rw [e2]
                  simp only [List.append_assoc, List.cons_append]
  rw [h1, List.nodup_append] at hd
  intro h
  exact hd.2.2 _ h _ (by simp) rfl
theorem rs_mpI {H : Heap} {keep : Nat → Prop} {i : Nat} {l : List (Int × Int)} (hk : ¬ keep i) (h : H[i]? = some (.mapo (mpI l))) : Rs H keep (.mp i) (.pm (mpI l)) := by
  have hp : ∀ (k : Nat) (x : AV × AV), (mpI l)[k]? = some x → Pur x.1 ∧ Pur x.2 := fun k x hx => by
    have := List.mem_of_getElem? hx
    simp only [mpI, mpE, List.map_map, List.mem_map] at this
    obtain ⟨p, _, rfl⟩ := this
    simp
  refine .mp hk h rfl (fun k x x' h1 h2 => ?_) (fun k x x' h1 h2 => ?_)
  · rw [h1] at h2; cases h2; exact (hp k x h1).1.rs
  · rw [h1] at h2; cases h2; exact (hp k x h1).2.rs
theorem pur_pmI (l : List (Int × Int)) : Pur (.pm (mpI l)) ↔ True := by
  simp only [pur_pm, iff_true]
  constructor <;> intro x hx <;> (simp only [mpI, mpE, List.map_map, List.mem_map] at hx; obtain ⟨p, _, rfl⟩ := hx; simp)
theorem pur_plc (l : List (Int × Int)) (b : Bool) : Pur (.tup [.pm (mpI l), .raw (.bool b)]) := by
  simp only [pur_tup, List.mem_cons, List.not_mem_nil, or_false]
  rintro x (rfl | rfl)
  · exact (pur_pmI l).2 trivial
  · exact .raw _
@[simp] theorem good_row (H : Heap) (l : List Int) : (rowAV l).goodPart H = true := rfl
def allR (s : MS) : List (List Int) := s.rows ++ [s.over, s.rej]
theorem allR_flat (s : MS) : (allR s).flatten = allM s := by simp [allR, allM]
end Go.Ab.S
