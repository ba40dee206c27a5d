/- What functions of this program compute, and the laws of what they compute, under the bounds on lengths that each contract states. -/
import Derived.Test.YtegbbhaghlcckaaS20

set_option linter.unusedSimpArgs false
set_option linter.unusedVariables false
namespace Go.Ab.S
open Go Go.Ab Go.Proofs
theorem pu_idx (l : List Int) : ∀ x ∈ l.map intAV, Pur x := by simp

noncomputable def r38_0 : Array Oper := opsAt Try.f38 [0]
theorem r38_0_ok : dstOk 91 r38_0.toList = true ∧ r38_0.toList.all (fun o => noDefer o.op) = true := by decide +kernel
noncomputable def r38_1 : Array Oper := opsAt Try.f38 [1, 0, 0]
theorem r38_1_ok : dstOk 91 r38_1.toList = true ∧ r38_1.toList.all (fun o => noDefer o.op) = true := by decide +kernel
noncomputable def r38_2 : Array Oper := opsAt Try.f38 [1, 0, 1, 0]
theorem r38_2_ok : dstOk 91 r38_2.toList = true ∧ r38_2.toList.all (fun o => noDefer o.op) = true := by decide +kernel
noncomputable def r38_3 : Array Oper := opsAt Try.f38 [1, 0, 1, 1, 0, 0]
theorem r38_3_ok : dstOk 91 r38_3.toList = true ∧ r38_3.toList.all (fun o => noDefer o.op) = true := by decide +kernel
noncomputable def r38_4 : Array Oper := opsAt Try.f38 [1, 1, 0, 0]
theorem r38_4_ok : dstOk 91 r38_4.toList = true ∧ r38_4.toList.all (fun o => noDefer o.op) = true := by decide +kernel
noncomputable def r38_5 : Array Oper := opsAt Try.f38 [1, 1, 0, 1, 0, 0]
theorem r38_5_ok : dstOk 91 r38_5.toList = true ∧ r38_5.toList.all (fun o => noDefer o.op) = true := by decide +kernel
noncomputable def r38_6 : Array Oper := opsAt Try.f38 [1, 1, 1, 0]
theorem r38_6_ok : dstOk 91 r38_6.toList = true ∧ r38_6.toList.all (fun o => noDefer o.op) = true := by decide +kernel
noncomputable def r38_7 : Array Oper := opsAt Try.f38 [1, 1, 1, 1, 0, 0]
theorem r38_7_ok : dstOk 91 r38_7.toList = true ∧ r38_7.toList.all (fun o => noDefer o.op) = true := by decide +kernel
noncomputable def r38_8 : Array Oper := opsAt Try.f38 [1, 1, 1, 1, 0, 1, 0, 0, 0]
theorem r38_8_ok : dstOk 91 r38_8.toList = true ∧ r38_8.toList.all (fun o => noDefer o.op) = true := by decide +kernel
noncomputable def r38_9 : Array Oper := opsAt Try.f38 [1, 1, 1, 1, 0, 1, 0, 0, 1, 1, 0, 0, 0]
theorem r38_9_ok : dstOk 91 r38_9.toList = true ∧ r38_9.toList.all (fun o => noDefer o.op) = true := by decide +kernel
noncomputable def r38_10 : Array Oper := opsAt Try.f38 [1, 1, 1, 1, 0, 1, 0, 0, 1, 1, 0, 0, 1]
theorem r38_10_ok : dstOk 91 r38_10.toList = true ∧ r38_10.toList.all (fun o => noDefer o.op) = true := by decide +kernel
noncomputable def r38_11 : Array Oper := opsAt Try.f38 [1, 1, 1, 1, 0, 1, 0, 0, 1, 1, 1]
theorem r38_11_ok : dstOk 91 r38_11.toList = true ∧ r38_11.toList.all (fun o => noDefer o.op) = true := by decide +kernel
noncomputable def b38_0 : Code := (.seq (.region 8 r38_8 false) (.seq (.cond (.tmp 38) .skip (.exit 0)) (.seq (.block 1 (.seq (.region 9 r38_9 false) (.region 10 r38_10 false))) (.region 11 r38_11 false))))
noncomputable def r38_12 : Array Oper := opsAt Try.f38 [1, 1, 1, 1, 1, 0]
theorem r38_12_ok : dstOk 91 r38_12.toList = true ∧ r38_12.toList.all (fun o => noDefer o.op) = true := by decide +kernel
noncomputable def r38_13 : Array Oper := opsAt Try.f38 [1, 1, 1, 1, 1, 1, 0, 0]
theorem r38_13_ok : dstOk 91 r38_13.toList = true ∧ r38_13.toList.all (fun o => noDefer o.op) = true := by decide +kernel
noncomputable def r38_14 : Array Oper := opsAt Try.f38 [1, 1, 1, 1, 1, 1, 0, 1, 0, 0, 0]
theorem r38_14_ok : dstOk 91 r38_14.toList = true ∧ r38_14.toList.all (fun o => noDefer o.op) = true := by decide +kernel
noncomputable def r38_15 : Array Oper := opsAt Try.f38 [1, 1, 1, 1, 1, 1, 0, 1, 0, 0, 1, 1, 0, 0, 0]
theorem r38_15_ok : dstOk 91 r38_15.toList = true ∧ r38_15.toList.all (fun o => noDefer o.op) = true := by decide +kernel
noncomputable def r38_16 : Array Oper := opsAt Try.f38 [1, 1, 1, 1, 1, 1, 0, 1, 0, 0, 1, 1, 0, 0, 1, 0]
theorem r38_16_ok : dstOk 91 r38_16.toList = true ∧ r38_16.toList.all (fun o => noDefer o.op) = true := by decide +kernel
noncomputable def r38_17 : Array Oper := opsAt Try.f38 [1, 1, 1, 1, 1, 1, 0, 1, 0, 0, 1, 1, 0, 0, 1, 1, 0, 0]
theorem r38_17_ok : dstOk 91 r38_17.toList = true ∧ r38_17.toList.all (fun o => noDefer o.op) = true := by decide +kernel
noncomputable def r38_18 : Array Oper := opsAt Try.f38 [1, 1, 1, 1, 1, 1, 0, 1, 0, 0, 1, 1, 0, 0, 1, 1, 0, 1, 0, 0]
theorem r38_18_ok : dstOk 91 r38_18.toList = true ∧ r38_18.toList.all (fun o => noDefer o.op) = true := by decide +kernel
noncomputable def r38_19 : Array Oper := opsAt Try.f38 [1, 1, 1, 1, 1, 1, 0, 1, 0, 0, 1, 1, 0, 0, 1, 1, 1, 0, 0]
theorem r38_19_ok : dstOk 91 r38_19.toList = true ∧ r38_19.toList.all (fun o => noDefer o.op) = true := by decide +kernel
noncomputable def r38_20 : Array Oper := opsAt Try.f38 [1, 1, 1, 1, 1, 1, 0, 1, 0, 0, 1, 1, 0, 0, 1, 1, 1, 0, 1, 0]
theorem r38_20_ok : dstOk 91 r38_20.toList = true ∧ r38_20.toList.all (fun o => noDefer o.op) = true := by decide +kernel
noncomputable def r38_21 : Array Oper := opsAt Try.f38 [1, 1, 1, 1, 1, 1, 0, 1, 0, 0, 1, 1, 0, 0, 1, 1, 1, 0, 1, 1, 0, 0]
theorem r38_21_ok : dstOk 91 r38_21.toList = true ∧ r38_21.toList.all (fun o => noDefer o.op) = true := by decide +kernel
noncomputable def r38_22 : Array Oper := opsAt Try.f38 [1, 1, 1, 1, 1, 1, 0, 1, 0, 0, 1, 1, 0, 0, 1, 1, 1, 1]
theorem r38_22_ok : dstOk 91 r38_22.toList = true ∧ r38_22.toList.all (fun o => noDefer o.op) = true := by decide +kernel
noncomputable def r38_23 : Array Oper := opsAt Try.f38 [1, 1, 1, 1, 1, 1, 0, 1, 0, 0, 1, 1, 1]
theorem r38_23_ok : dstOk 91 r38_23.toList = true ∧ r38_23.toList.all (fun o => noDefer o.op) = true := by decide +kernel
noncomputable def b38_1 : Code := (.seq (.region 14 r38_14 false) (.seq (.cond (.tmp 52) .skip (.exit 2)) (.seq (.block 3 (.seq (.region 15 r38_15 false) (.seq (.region 16 r38_16 false) (.seq (.seq (.region 17 r38_17 false) (.cond (.tmp 63) (.seq (.region 18 r38_18 false) .ret) .skip)) (.seq (.seq (.region 19 r38_19 false) (.seq (.region 20 r38_20 false) (.cond (.tmp 74) (.seq (.region 21 r38_21 false) .ret) .skip))) (.region 22 r38_22 false)))))) (.region 23 r38_23 false))))
noncomputable def r38_24 : Array Oper := opsAt Try.f38 [1, 1, 1, 1, 1, 1, 1, 0]
theorem r38_24_ok : dstOk 91 r38_24.toList = true ∧ r38_24.toList.all (fun o => noDefer o.op) = true := by decide +kernel
noncomputable def r38_25 : Array Oper := opsAt Try.f38 [1, 1, 1, 1, 1, 1, 1, 1, 0]
theorem r38_25_ok : dstOk 91 r38_25.toList = true ∧ r38_25.toList.all (fun o => noDefer o.op) = true := by decide +kernel
noncomputable def r38_26 : Array Oper := opsAt Try.f38 [1, 1, 1, 1, 1, 1, 1, 1, 1, 0]
theorem r38_26_ok : dstOk 91 r38_26.toList = true ∧ r38_26.toList.all (fun o => noDefer o.op) = true := by decide +kernel
noncomputable def r38_27 : Array Oper := opsAt Try.f38 [1, 1, 1, 1, 1, 1, 1, 1, 1, 1, 0]
theorem r38_27_ok : dstOk 91 r38_27.toList = true ∧ r38_27.toList.all (fun o => noDefer o.op) = true := by decide +kernel
noncomputable def r38_28 : Array Oper := opsAt Try.f38 [1, 1, 1, 1, 1, 1, 1, 1, 1, 1, 1, 0]
theorem r38_28_ok : dstOk 91 r38_28.toList = true ∧ r38_28.toList.all (fun o => noDefer o.op) = true := by decide +kernel
noncomputable def c38 : Code := (.seq (.region 0 r38_0 false) (.seq (.seq (.region 1 r38_1 false) (.seq (.region 2 r38_2 false) (.cond (.tmp 25) (.seq (.region 3 r38_3 false) .ret) .skip))) (.seq (.seq (.region 4 r38_4 false) (.cond (.tmp 30) (.seq (.region 5 r38_5 false) .ret) .skip)) (.seq (.region 6 r38_6 false) (.seq (.seq (.region 7 r38_7 false) (.block 0 (.loop b38_0))) (.seq (.region 12 r38_12 false) (.seq (.seq (.region 13 r38_13 false) (.block 2 (.loop b38_1))) (.seq (.region 24 r38_24 false) (.seq (.region 25 r38_25 false) (.seq (.region 26 r38_26 false) (.seq (.region 27 r38_27 false) (.seq (.region 28 r38_28 false) .ret))))))))))))
theorem body38 : Try.f38.body = some c38 := by kernel_rfl
def sortAV (p : PlanR) (ids : List Int) : AV := .agg [.sl 1 false ((row1 p ids).map rowAV), .sl 1 false ((row2 p ids).map rowAV), rowAV (ord2 p ids)]
theorem sort38_ok (b : B4) {p : PlanR} (hck : CheckOk p) (bi : Fl) {ids : List Int} (hs : SortOk p ids) : PureCall Try.prog GL 38 [planAV b p, .sl 1 bi (ids.map intAV)] (.tup [sortAV p ids, .raw (.int .i64 0)]) := by
  refine pure_of_body Try.func38 body38 (Nat.le_of_ble_eq_true rfl) (by simp) (by simp [sortAV]) ?_
  refine w_keep [(0, planAV b p), (1, .sl 1 bi (ids.map intAV))] ⟨rfl, rfl, trivial⟩ ?_
  unfold c38
  have hcl := rightF_caps hck
  have hsm := hck.m; have hf1 := hck.l1; have hf2 := hck.l2; have hsl := hs.l
  refine awp_seq ?_
  refine w_reg (l := r38_0.toList) rfl r38_0_ok ?_
  refine a_op rfl (o_box (N := 0) rfl (by rfl) rfl rfl) ?_
  refine a_op rfl (o_box (N := 1) rfl (by rfl) rfl rfl) ?_
  refine a_op rfl (o_al (N := 2) tz94 rfl rfl rfl) ?_
  refine a_op rfl (o_as rfl) ?_
  refine a_nil ?_
  refine tq_n ?_
  refine awp_seq ?_
  refine awp_seq ?_
  refine w_reg (l := r38_1.toList) rfl r38_1_ok ?_
  refine a_op rfl ((by first | exact o_ldg tg51 tn51 rfl rfl | exact o_ldpg tg51 tn51 rfl rfl rfl rfl)) ?_
  refine a_pure rfl rfl rfl cb25 (check_ok b p (by omega) (by omega) (by omega) (by omega)) ?_
  rw [check_zero hck]
  refine a_op rfl (o_mv rfl) ?_
  refine a_op rfl (o_ex rfl rfl) ?_
  refine a_op rfl (o_ex rfl rfl) ?_
  refine a_op rfl (o_as rfl) ?_
  refine a_op rfl (o_as rfl) ?_
  refine a_nil ?_
  refine tq_n ?_
  refine awp_seq ?_
  refine w_reg (l := r38_2.toList) rfl r38_2_ok ?_
  refine a_op rfl (o_mv rfl) ?_
  refine a_op rfl (elD (o_ne rfl rfl) (w := .raw (.bool false)) rfl) ?_
  refine a_nil ?_
  refine tq_n ?_
  refine w_false rfl ?_
  refine awp_skip ?_
  refine tq_n ?_
  refine awp_seq ?_
  refine awp_seq ?_
  refine w_reg (l := r38_4.toList) rfl r38_4_ok ?_
  refine a_op rfl ((by first | exact o_ld tg34 rfl rfl | exact o_ldp tg34 rfl rfl rfl rfl)) ?_
  refine a_op rfl (o_len rfl rfl (by first | exact List.length_map .. | rfl) tl34) ?_
  refine a_if rfl (o_gt rfl rfl) (fun h1 => ?_) (fun h2 => ?_)
  · omega
  refine a_nil ?_
  refine tq_n ?_
  refine w_false rfl ?_
  refine awp_skip ?_
  refine tq_n ?_
  refine awp_seq ?_
  refine w_reg (l := r38_6.toList) rfl r38_6_ok ?_
  refine a_opH rfl (o_mm (N := 3) rfl rfl) (H' := [.var (planC b p), .var [.sl 1 bi (ids.map intAV)], .var [.raw (.slice none 0 0), .raw (.slice none 0 0), .raw (.slice none 0 0)], .mapo (mpG seatAV (mkM (·.stop) []))]) rfl ?_
  refine a_opH rfl (o_mm (N := 4) rfl rfl) (H' := [.var (planC b p), .var [.sl 1 bi (ids.map intAV)], .var [.raw (.slice none 0 0), .raw (.slice none 0 0), .raw (.slice none 0 0)], .mapo (mpG seatAV (mkM (·.stop) [])), .mapo (mpI [])]) rfl ?_
  refine a_op rfl (o_al (N := 5) tz187 rfl rfl rfl) ?_
  refine a_op0 rfl (o_st (N := 0) tn187 rfl rfl (by first | exact good_slo rfl | exact good_slo' rfl | rfl) rfl rfl) ?_
  refine a_op rfl (o_as rfl) ?_
  refine a_nil ?_
  refine tq_n ?_
  refine awp_seq ?_
  refine awp_seq ?_
  refine w_reg (l := r38_7.toList) rfl r38_7_ok ?_
  refine a_op rfl ((by first | exact o_fa tf51_1 rfl rfl | exact o_fap tf51_1 rfl rfl)) ?_
  refine a_op rfl ((by first | exact o_ld tg49 rfl rfl | exact o_ldp tg49 rfl rfl rfl rfl)) ?_
  refine a_op rfl (o_len rfl rfl (by first | exact List.length_map .. | rfl) tl49) ?_
  refine a_op rfl (o_mv rfl) ?_
  refine a_nil ?_
  refine tq_n ?_
  refine awp_block ?_
  refine w_loop (fun i : Nat => i ≤ p.seats.length) (fun i => [(2, .ptr 0 0), (3, .ptr 1 0), (4, .ptr 2 0), (8, .ptr 5 0), (9, .mp 4), (35, .sl 4 b.b1 (p.seats.map seatAV)), (36, .raw (.int .i64 ((p.seats.length : Nat) : Int))), (37, .raw (.int .i64 ((i : Nat) : Int)))]) (fun i => [.var (planC b p), .var [.sl 1 bi (ids.map intAV)], .var [.raw (.slice none 0 0), .raw (.slice none 0 0), .raw (.slice none 0 0)], .mapo (mpG seatAV (mkM (·.stop) (p.seats.take i))), .mapo (mpI []), .var [.mp 3]]) (fun i => p.seats.length - i) (0) (by simp) ⟨(by first | exact sub_int rfl (by omega) | rfl), (by first | exact sub_int rfl (by omega) | rfl), (by first | exact sub_int rfl (by omega) | rfl), (by first | exact sub_int rfl (by omega) | rfl), (by first | exact sub_int rfl (by omega) | rfl), (by first | exact sub_int rfl (by omega) | rfl), (by first | exact sub_int rfl (by omega) | rfl), (by first | exact sub_int rfl (by omega) | rfl), trivial⟩ rfl ?_
  intro i hp
  unfold b38_0
  refine awp_seq ?_
  refine w_reg (l := r38_8.toList) rfl r38_8_ok ?_
  refine a_if rfl (o_lt rfl rfl) (fun h3 => ?_) (fun h4 => ?_)
  · refine a_nil ?_
    refine tq_n ?_
    refine awp_seq ?_
    refine w_true rfl ?_
    refine awp_skip ?_
    refine tq_n ?_
    refine awp_seq ?_
    refine awp_block ?_
    refine awp_seq ?_
    have hi : i < p.seats.length := by omega
    refine w_reg (l := r38_9.toList) rfl r38_9_ok ?_
    refine a_op rfl (o_ix te49 tn89 rfl rfl rfl (ixm _ _ _ hi)) ?_
    refine a_op rfl ((by first | exact o_ldg tg89 tn89 rfl rfl | exact o_ldpg tg89 tn89 rfl rfl rfl rfl)) ?_
    refine a_op rfl (o_al (N := 6) tz89 rfl rfl rfl) ?_
    refine a_op0 rfl (o_st (N := 3) tn89 rfl rfl (by first | exact good_slo rfl | exact good_slo' rfl | rfl) rfl rfl) ?_
    refine a_nil ?_
    refine tq_n ?_
    refine w_reg (l := r38_10.toList) rfl r38_10_ok ?_
    refine a_op rfl ((by first | exact o_ld tg187 rfl rfl | exact o_ldp tg187 rfl rfl rfl rfl)) ?_
    refine a_op rfl ((by first | exact o_fa tf89_0 rfl rfl | exact o_fap tf89_0 rfl rfl)) ?_
    refine a_op rfl ((by first | exact o_ld tg3 rfl rfl | exact o_ldp tg3 rfl rfl rfl rfl)) ?_
    refine a_op rfl ((by first | exact o_ldg tg89 tn89 rfl rfl | exact o_ldpg tg89 tn89 rfl rfl rfl rfl)) ?_
    refine a_op0 rfl (o_muG (v := p.seats[i]) mt187 k3 rfl rfl rfl rfl) ?_
    refine a_nil ?_
    refine bq_n ?_
    refine tq_n ?_
    refine w_view [(2, .ptr 0 0), (3, .ptr 1 0), (4, .ptr 2 0), (8, .ptr 5 0), (9, .mp 4), (35, .sl 4 b.b1 (p.seats.map seatAV)), (36, .raw (.int .i64 ((p.seats.length : Nat) : Int))), (37, .raw (.int .i64 ((i : Nat) : Int)))] [.var (planC b p), .var [.sl 1 bi (ids.map intAV)], .var [.raw (.slice none 0 0), .raw (.slice none 0 0), .raw (.slice none 0 0)], .mapo (mpG seatAV (mput (mkM (·.stop) (p.seats.take i)) p.seats[i].stop p.seats[i])), .mapo (mpI []), .var [.mp 3]] 6 rfl (Nat.le_of_ble_eq_true rfl) (Nat.le_of_ble_eq_true rfl) ⟨⟨_, rfl, .ptrK (Nat.le_of_ble_eq_true rfl)⟩, ⟨_, rfl, .ptrK (Nat.le_of_ble_eq_true rfl)⟩, ⟨_, rfl, .ptrK (Nat.le_of_ble_eq_true rfl)⟩, ⟨_, rfl, .ptrK (Nat.le_of_ble_eq_true rfl)⟩, ⟨_, rfl, .mpK (Nat.le_of_ble_eq_true rfl)⟩, ⟨_, rfl, rs_pur (by simp) rfl⟩, ⟨_, rfl, rs_pur (by simp) rfl⟩, ⟨_, rfl, rs_pur (by simp) rfl⟩, trivial⟩ ⟨ors_var ⟨rs_pur (by simp) rfl, rs_pur (by simp) rfl, rs_pur (by simp) rfl, rs_pur (by simp) rfl, trivial⟩, ors_var ⟨rs_pur (by simp) rfl, trivial⟩, ors_var ⟨.raw _, .raw _, .raw _, trivial⟩, ors_mpG (fun x => by simp) _, ors_mpI _, ors_var ⟨.mpK (Nat.le_of_ble_eq_true rfl), trivial⟩, trivial⟩ ?_
    refine w_reg (l := r38_11.toList) rfl r38_11_ok ?_
    refine a_op rfl (o_add rfl rfl (by simp only [klo, khi]; omega)) ?_
    refine a_op rfl (o_mv rfl) ?_
    refine a_nil ?_
    refine tq_n ?_
    exact ⟨i + 1, ⟨by omega, by omega⟩, ⟨(by first | exact sub_int rfl (by omega) | rfl), (by first | exact sub_int rfl (by omega) | rfl), (by first | exact sub_int rfl (by omega) | rfl), (by first | exact sub_int rfl (by omega) | rfl), (by first | exact sub_int rfl (by omega) | rfl), (by first | exact sub_int rfl (by omega) | rfl), (by first | exact sub_int rfl (by omega) | rfl), (by first | exact sub_int rfl (by omega) | rfl), trivial⟩, by rw [mkM_succ (·.stop) hi]⟩
  refine a_nil ?_
  refine tq_n ?_
  refine awp_seq ?_
  refine w_false rfl ?_
  refine awp_exit ?_
  refine tq_x ?_
  refine tq_x ?_
  refine bq_hit ?_
  refine tq_n ?_
  refine awp_seq ?_
  refine w_heq (H1 := [.var (planC b p), .var [.sl 1 bi (ids.map intAV)], .var [.raw (.slice none 0 0), .raw (.slice none 0 0), .raw (.slice none 0 0)], .mapo (mpG seatAV (mkM (·.stop) p.seats)), .mapo (mpI (cntM ids 0)), .var [.mp 3]]) (by rw [show i = p.seats.length by omega, List.take_length]; rfl) ?_
  refine w_keep [(2, .ptr 0 0), (3, .ptr 1 0), (4, .ptr 2 0), (8, .ptr 5 0), (9, .mp 4)] ⟨rfl, rfl, rfl, rfl, rfl, trivial⟩ ?_
  refine w_reg (l := r38_12.toList) rfl r38_12_ok ?_
  refine a_op rfl ((by first | exact o_ld tg34 rfl rfl | exact o_ldp tg34 rfl rfl rfl rfl)) ?_
  refine a_op rfl (o_len rfl rfl (by first | exact List.length_map .. | rfl) tl34) ?_
  refine a_op rfl (o_ms (N := 6) tE34 rfl rfl (by omega) (by omega) (by omega) (by omega) rfl rfl) ?_
  refine a_op rfl (o_al (N := 7) tz34 rfl rfl rfl) ?_
  refine a_op0 rfl (o_st (N := 0) tn34 rfl rfl (by first | exact good_slo rfl | exact good_slo' rfl | rfl) rfl rfl) ?_
  refine a_nil ?_
  refine tq_n ?_
  refine awp_seq ?_
  refine awp_seq ?_
  refine w_reg (l := r38_13.toList) rfl r38_13_ok ?_
  refine a_op rfl ((by first | exact o_ld tg34 rfl rfl | exact o_ldp tg34 rfl rfl rfl rfl)) ?_
  refine a_op rfl (o_len rfl rfl (by first | exact List.length_map .. | rfl) tl34) ?_
  refine a_op rfl (o_mv rfl) ?_
  refine a_nil ?_
  refine tq_n ?_
  refine awp_block ?_
  refine w_loop (fun i : Nat => i ≤ ids.length) (fun i => [(2, .ptr 0 0), (3, .ptr 1 0), (4, .ptr 2 0), (8, .ptr 5 0), (9, .mp 4), (12, .ptr 7 0), (49, .sl 1 bi (ids.map intAV)), (50, .raw (.int .i64 ((ids.length : Nat) : Int))), (51, .raw (.int .i64 ((i : Nat) : Int)))]) (fun i => [.var (planC b p), .var [.sl 1 bi (ids.map intAV)], .var [.raw (.slice none 0 0), .raw (.slice none 0 0), .raw (.slice none 0 0)], .mapo (mpG seatAV (mkM (·.stop) p.seats)), .mapo (mpI (cntM ids i)), .var [.mp 3], .vec 1 i ((idxL i).map intAV), .var [.slo 6 i 0 i]]) (fun i => ids.length - i) (0) (by simp) ⟨(by first | exact sub_int rfl (by omega) | rfl), (by first | exact sub_int rfl (by omega) | rfl), (by first | exact sub_int rfl (by omega) | rfl), (by first | exact sub_int rfl (by omega) | rfl), (by first | exact sub_int rfl (by omega) | rfl), (by first | exact sub_int rfl (by omega) | rfl), (by first | exact sub_int rfl (by omega) | rfl), (by first | exact sub_int rfl (by omega) | rfl), (by first | exact sub_int rfl (by omega) | rfl), trivial⟩ rfl ?_
  intro i hp
  unfold b38_1
  refine awp_seq ?_
  refine w_reg (l := r38_14.toList) rfl r38_14_ok ?_
  refine a_if rfl (o_lt rfl rfl) (fun h5 => ?_) (fun h6 => ?_)
  · refine a_nil ?_
    refine tq_n ?_
    refine awp_seq ?_
    refine w_true rfl ?_
    refine awp_skip ?_
    refine tq_n ?_
    refine awp_seq ?_
    refine awp_block ?_
    refine awp_seq ?_
    have hi : i < ids.length := by omega
    obtain ⟨s, hsm1, hsm2, hs3⟩ := hs.st _ (List.getElem_mem hi)
    have hvi := hs.v i hi
    rw [hs3, Option.getD_some] at hvi
    have hmg : mget (mkM (·.stop) p.seats) ids[i] = some s := hs3
    have hcn := cntM_get ids ids[i] i (by omega)
    rw [List.take_succ_eq_append_getElem hi, List.count_append, List.count_singleton_self] at hvi
    have hcb := List.count_le_length (a := ids[i]) (l := ids.take i)
    rw [List.length_take] at hcb
    obtain ⟨c, hc⟩ : ∃ c, c = (ids.take i).count ids[i] := ⟨_, rfl⟩
    rw [← hc] at hvi hcn hcb
    refine w_reg (l := r38_15.toList) rfl r38_15_ok ?_
    refine a_op rfl (o_mv rfl) ?_
    refine a_op rfl (o_ix te34 tn3 rfl rfl rfl (ixm _ _ _ hi)) ?_
    refine a_op rfl ((by first | exact o_ld tg3 rfl rfl | exact o_ldp tg3 rfl rfl rfl rfl)) ?_
    refine a_op rfl (o_as rfl) ?_
    refine a_op rfl (o_as rfl) ?_
    refine a_nil ?_
    refine tq_n ?_
    refine awp_seq ?_
    refine w_reg (l := r38_16.toList) rfl r38_16_ok ?_
    refine a_op rfl ((by first | exact o_ld tg187 rfl rfl | exact o_ldp tg187 rfl rfl rfl rfl)) ?_
    refine a_op rfl (o_mv rfl) ?_
    refine a_op rfl (o_lkG (d := s0R) mt187 k3 mz89 vz89 rfl rfl rfl) ?_
    simp only [hmg, Option.getD_some, Option.isSome_some]
    refine a_op rfl (o_mv rfl) ?_
    refine a_op rfl (o_ex rfl rfl) ?_
    refine a_op rfl (o_ex rfl rfl) ?_
    refine a_op rfl (o_al (N := 8) tz89 rfl rfl rfl) ?_
    refine a_op0 rfl (o_st (N := 3) tn89 rfl rfl (by first | exact good_slo rfl | exact good_slo' rfl | rfl) rfl rfl) ?_
    refine a_op rfl (o_as rfl) ?_
    refine a_nil ?_
    refine tq_n ?_
    refine awp_seq ?_
    refine awp_seq ?_
    refine w_reg (l := r38_17.toList) rfl r38_17_ok ?_
    refine a_op rfl (o_mv rfl) ?_
    refine a_op rfl (o_ntt rfl) ?_
    refine a_nil ?_
    refine tq_n ?_
    refine w_false rfl ?_
    refine awp_skip ?_
    refine tq_n ?_
    refine awp_seq ?_
    refine awp_seq ?_
    refine w_reg (l := r38_19.toList) rfl r38_19_ok ?_
    refine a_op rfl (o_mv rfl) ?_
    refine a_op rfl (o_mv rfl) ?_
    refine a_op rfl (o_lkI0 rfl rfl rfl) ?_
    rw [hcn]
    refine a_op rfl (o_add rfl rfl (by simp only [klo, khi]; omega)) ?_
    refine a_op0 rfl (o_muI rfl rfl rfl rfl rfl) ?_
    refine a_nil ?_
    refine tq_n ?_
    refine awp_seq ?_
    refine w_reg (l := r38_20.toList) rfl r38_20_ok ?_
    refine a_op rfl (o_mv rfl) ?_
    refine a_op rfl (o_mv rfl) ?_
    refine a_op rfl (o_lkI0 rfl rfl rfl) ?_
    rw [mget_put, if_pos rfl, Option.getD_some]
    refine a_op rfl ((by first | exact o_fa tf89_1 rfl rfl | exact o_fap tf89_1 rfl rfl)) ?_
    refine a_op rfl ((by first | exact o_ld tg3 rfl rfl | exact o_ldp tg3 rfl rfl rfl rfl)) ?_
    refine a_if rfl (o_gt rfl rfl) (fun h7 => ?_) (fun h8 => ?_)
    · omega
    refine a_nil ?_
    refine tq_n ?_
    refine w_false rfl ?_
    refine awp_skip ?_
    refine tq_n ?_
    refine w_reg (l := r38_22.toList) rfl r38_22_ok ?_
    refine a_op rfl ((by first | exact o_ld tg34 rfl rfl | exact o_ldp tg34 rfl rfl rfl rfl)) ?_
    refine a_op rfl (o_mv rfl) ?_
    refine a_op rfl (o_bs tE34 (by decide) rfl rfl rfl) ?_
    refine a_op rfl (o_ap (out := (idxL (i + 1)).map intAV) (len' := i + 1) (ver' := i + 1) tE34 rfl rfl (by rw [List.length_map, idxL_len]) rfl rfl rfl (by simp [idxL_len]; omega) (by simp [idxL_len]; omega) rfl rfl (by simp [idxL_succ, intAV]) rfl) ?_
    refine a_op0 rfl (o_st (N := 0) tn34 rfl rfl (by first | exact good_slo rfl | exact good_slo' rfl | rfl) rfl rfl) ?_
    refine a_nil ?_
    refine bq_n ?_
    refine tq_n ?_
    refine w_view [(2, .ptr 0 0), (3, .ptr 1 0), (4, .ptr 2 0), (8, .ptr 5 0), (9, .mp 4), (12, .ptr 7 0), (49, .sl 1 bi (ids.map intAV)), (50, .raw (.int .i64 ((ids.length : Nat) : Int))), (51, .raw (.int .i64 ((i : Nat) : Int)))] [.var (planC b p), .var [.sl 1 bi (ids.map intAV)], .var [.raw (.slice none 0 0), .raw (.slice none 0 0), .raw (.slice none 0 0)], .mapo (mpG seatAV (mkM (·.stop) p.seats)), .mapo (mpI (mput (cntM ids i) ids[i] ((c : Int) + 1))), .var [.mp 3], .vec 1 (i + 1) ((idxL (i + 1)).map intAV), .var [.slo 6 (i + 1) 0 (i + 1)]] 8 rfl (Nat.le_of_ble_eq_true rfl) (Nat.le_of_ble_eq_true rfl) ⟨⟨_, rfl, .ptrK (Nat.le_of_ble_eq_true rfl)⟩, ⟨_, rfl, .ptrK (Nat.le_of_ble_eq_true rfl)⟩, ⟨_, rfl, .ptrK (Nat.le_of_ble_eq_true rfl)⟩, ⟨_, rfl, .ptrK (Nat.le_of_ble_eq_true rfl)⟩, ⟨_, rfl, .mpK (Nat.le_of_ble_eq_true rfl)⟩, ⟨_, rfl, .ptrK (Nat.le_of_ble_eq_true rfl)⟩, ⟨_, rfl, rs_pur (by simp) rfl⟩, ⟨_, rfl, rs_pur (by simp) rfl⟩, ⟨_, rfl, rs_pur (by simp) rfl⟩, trivial⟩ ⟨ors_var ⟨rs_pur (by simp) rfl, rs_pur (by simp) rfl, rs_pur (by simp) rfl, rs_pur (by simp) rfl, trivial⟩, ors_var ⟨rs_pur (by simp) rfl, trivial⟩, ors_var ⟨.raw _, .raw _, .raw _, trivial⟩, ors_mpG (fun x => by simp) _, ors_mpI _, ors_var ⟨.mpK (Nat.le_of_ble_eq_true rfl), trivial⟩, ors_vec (pu_int _), ors_var ⟨.sloK (Nat.le_of_ble_eq_true rfl), trivial⟩, trivial⟩ ?_
    refine w_reg (l := r38_23.toList) rfl r38_23_ok ?_
    refine a_op rfl (o_add rfl rfl (by simp only [klo, khi]; omega)) ?_
    refine a_op rfl (o_mv rfl) ?_
    refine a_nil ?_
    refine tq_n ?_
    exact ⟨i + 1, ⟨by omega, by omega⟩, ⟨(by first | exact sub_int rfl (by omega) | rfl), (by first | exact sub_int rfl (by omega) | rfl), (by first | exact sub_int rfl (by omega) | rfl), (by first | exact sub_int rfl (by omega) | rfl), (by first | exact sub_int rfl (by omega) | rfl), (by first | exact sub_int rfl (by omega) | rfl), (by first | exact sub_int rfl (by omega) | rfl), (by first | exact sub_int rfl (by omega) | rfl), (by first | exact sub_int rfl (by omega) | rfl), trivial⟩, by rw [cntM, getDi hi, hcn]⟩
  refine a_nil ?_
  refine tq_n ?_
  refine awp_seq ?_
  refine w_false rfl ?_
  refine awp_exit ?_
  refine tq_x ?_
  refine tq_x ?_
  refine bq_hit ?_
  refine tq_n ?_
  refine awp_seq ?_
  have hii : i = ids.length := by omega
  refine w_viewD [(2, .ptr 0 0), (3, .ptr 1 0), (4, .ptr 2 0), (8, .ptr 5 0), (12, .ptr 7 0)] [.var (planC b p), .var [.sl 1 bi (ids.map intAV)], .var [.raw (.slice none 0 0), .raw (.slice none 0 0), .raw (.slice none 0 0)], .mapo (mpG seatAV (mkM (·.stop) p.seats)), .dead, .var [.mp 3], .dead, .var [rowAV (idxL ids.length)]] [true, true, true, true, false, true, false, true] rfl ⟨⟨_, rfl, .ptrK rfl⟩, ⟨_, rfl, .ptrK rfl⟩, ⟨_, rfl, .ptrK rfl⟩, ⟨_, rfl, .ptrK rfl⟩, ⟨_, rfl, .ptrK rfl⟩, trivial⟩ ⟨ors_var ⟨rs_pur (by simp) rfl, rs_pur (by simp) rfl, rs_pur (by simp) rfl, rs_pur (by simp) rfl, trivial⟩, ors_var ⟨rs_pur (by simp) rfl, trivial⟩, ors_var ⟨.raw _, .raw _, .raw _, trivial⟩, ors_mpG (fun x => by simp) _, rfl, ors_var ⟨.mpK rfl, trivial⟩, rfl, ors_var ⟨rs_slo (by simp) rfl (by rw [List.length_map, idxL_len]) (pu_int _) (by rw [hii]), trivial⟩, trivial⟩ ?_
  refine w_phd rfl ?_
  refine w_reg (l := r38_24.toList) rfl r38_24_ok ?_
  refine a_op rfl (o_mf rfl rfl) ?_
  refine a_op rfl (o_as rfl) ?_
  refine a_nil ?_
  refine tq_n ?_
  refine awp_seq ?_
  refine w_reg (l := r38_25.toList) rfl r38_25_ok ?_
  refine a_op rfl (o_mv rfl) ?_
  refine a_call rfl rfl rfl cb80 (pass_ok b p (by omega) bi ids (idxL ids.length) (by rw [idxL_len]; omega) .dead 81 cb81 (·.fst) fst_ok (fun a ha => idxL_in a ha) (sort_d1 hck hs)).calls ?_
  rintro r H' ⟨rfl, rfl⟩
  refine a_op rfl (o_bd tz94 rfl tp94 rfl rfl) ?_
  refine a_op rfl (o_alD (q := 8) tz94 rfl rfl) ?_
  refine a_op0 rfl (o_st (N := 2) tn94 rfl rfl (by first | exact good_slo rfl | exact good_slo' rfl | rfl) rfl rfl) ?_
  refine a_nil ?_
  refine tq_n ?_
  refine awp_seq ?_
  refine w_heq (H1 := [.var (planC b p), .var [.sl 1 bi (ids.map intAV)], .var [.raw (.slice none 0 0), .raw (.slice none 0 0), .raw (.slice none 0 0)], .mapo (mpG seatAV (mkM (·.stop) p.seats)), .dead, .var [.mp 3], .dead, .var [rowAV (ord1 p ids)], .var [.slo 9 0 0 p.caps.length, .raw (.slice none 0 0), .raw (.slice none 0 0)], .vec 1 0 (refs 10 (row1 p ids))] ++ (row1 p ids).map rowO) rfl ?_
  refine w_viewD [(2, .ptr 0 0), (3, .ptr 1 0), (4, .ptr 2 0), (8, .ptr 5 0), (12, .ptr 7 0), (17, .fn 80 [] [.ptr 0 0, .ptr 7 0, .ptr 5 0, .ptr 1 0]), (18, .ptr 8 0)] [.var (planC b p), .var [.sl 1 bi (ids.map intAV)], .var [.raw (.slice none 0 0), .raw (.slice none 0 0), .raw (.slice none 0 0)], .mapo (mpG seatAV (mkM (·.stop) p.seats)), .dead, .var [.mp 3], .dead, .var [rowAV (ord1 p ids)], .var [.sl 1 false ((row1 p ids).map rowAV), .raw (.slice none 0 0), .raw (.slice none 0 0)]] [true, true, true, true, false, true, false, true, true] rfl ⟨⟨_, rfl, .ptrK rfl⟩, ⟨_, rfl, .ptrK rfl⟩, ⟨_, rfl, .ptrK rfl⟩, ⟨_, rfl, .ptrK rfl⟩, ⟨_, rfl, .ptrK rfl⟩, ⟨_, rfl, rs_fn trivial ⟨.ptrK rfl, .ptrK rfl, .ptrK rfl, .ptrK rfl, trivial⟩⟩, ⟨_, rfl, .ptrK rfl⟩, trivial⟩ ⟨ors_var ⟨rs_pur (by simp) rfl, rs_pur (by simp) rfl, rs_pur (by simp) rfl, rs_pur (by simp) rfl, trivial⟩, ors_var ⟨rs_pur (by simp) rfl, trivial⟩, ors_var ⟨.raw _, .raw _, .raw _, trivial⟩, ors_mpG (fun x => by simp) _, rfl, ors_var ⟨.mpK rfl, trivial⟩, rfl, ors_var ⟨rs_pur (by simp) rfl, trivial⟩, ors_var ⟨rs_rowsK (i := 9) (m := 10) (by simp) (fun k _ h => absurd (get_lt h) (by simp only [List.length_cons, List.length_nil]; omega)) rfl (row1_len).symm (fun k h => rowG10 h), .raw _, .raw _, trivial⟩, trivial⟩ ?_
  refine w_reg (l := r38_26.toList) rfl r38_26_ok ?_
  refine a_op rfl (o_mv rfl) ?_
  refine a_call rfl rfl rfl cb80 (pass_ok b p (by omega) bi ids (ord1 p ids) (by rw [ord1_len hck hs]; omega) (.var [.sl 1 false ((row1 p ids).map rowAV), .raw (.slice none 0 0), .raw (.slice none 0 0)]) 82 cb82 (·.snd) snd_ok (ord1_in hck hs) (sort_d2 hck hs)).calls ?_
  rintro r H' ⟨rfl, rfl⟩
  refine a_op rfl ((by first | exact o_fa tf94_1 rfl rfl | exact o_fap tf94_1 rfl rfl)) ?_
  refine a_op0 rfl (o_st (N := 0) tn57 rfl rfl (by first | exact good_slo rfl | exact good_slo' rfl | rfl) rfl rfl) ?_
  refine a_nil ?_
  refine tq_n ?_
  refine awp_seq ?_
  refine w_heq (H1 := [.var (planC b p), .var [.sl 1 bi (ids.map intAV)], .var [.raw (.slice none 0 0), .raw (.slice none 0 0), .raw (.slice none 0 0)], .mapo (mpG seatAV (mkM (·.stop) p.seats)), .dead, .var [.mp 3], .dead, .var [rowAV (ord2 p ids)], .var [.sl 1 false ((row1 p ids).map rowAV), .slo 9 0 0 p.caps.length, .raw (.slice none 0 0)], .vec 1 0 (refs 10 (row2 p ids))] ++ (row2 p ids).map rowO) rfl ?_
  refine w_viewD [(4, .ptr 2 0), (12, .ptr 7 0), (18, .ptr 8 0)] [.var (planC b p), .var [.sl 1 bi (ids.map intAV)], .var [.raw (.slice none 0 0), .raw (.slice none 0 0), .raw (.slice none 0 0)], .mapo (mpG seatAV (mkM (·.stop) p.seats)), .dead, .var [.mp 3], .dead, .var [rowAV (ord2 p ids)], .var [.sl 1 false ((row1 p ids).map rowAV), .sl 1 false ((row2 p ids).map rowAV), .raw (.slice none 0 0)]] [true, true, true, true, false, true, false, true, true] rfl ⟨⟨_, rfl, .ptrK rfl⟩, ⟨_, rfl, .ptrK rfl⟩, ⟨_, rfl, .ptrK rfl⟩, trivial⟩ ⟨ors_var ⟨rs_pur (by simp) rfl, rs_pur (by simp) rfl, rs_pur (by simp) rfl, rs_pur (by simp) rfl, trivial⟩, ors_var ⟨rs_pur (by simp) rfl, trivial⟩, ors_var ⟨.raw _, .raw _, .raw _, trivial⟩, ors_mpG (fun x => by simp) _, rfl, ors_var ⟨.mpK rfl, trivial⟩, rfl, ors_var ⟨rs_pur (by simp) rfl, trivial⟩, ors_var ⟨rs_pur (by simp) rfl, rs_rowsK (i := 9) (m := 10) (by simp) (fun k _ h => absurd (get_lt h) (by simp only [List.length_cons, List.length_nil]; omega)) rfl (row2_len).symm (fun k h => rowG10 h), .raw _, trivial⟩, trivial⟩ ?_
  refine w_reg (l := r38_27.toList) rfl r38_27_ok ?_
  refine a_op rfl ((by first | exact o_ld tg34 rfl rfl | exact o_ldp tg34 rfl rfl rfl rfl)) ?_
  refine a_op rfl ((by first | exact o_fa tf94_2 rfl rfl | exact o_fap tf94_2 rfl rfl)) ?_
  refine a_op0 rfl (o_st (N := 0) tn34 rfl rfl (by first | exact good_slo rfl | exact good_slo' rfl | rfl) rfl rfl) ?_
  refine a_nil ?_
  refine tq_n ?_
  refine awp_seq ?_
  refine w_reg (l := r38_28.toList) rfl r38_28_ok ?_
  refine a_op rfl ((by first | exact o_ldg tg94 tn94 rfl rfl | exact o_ldpg tg94 tn94 rfl rfl rfl rfl)) ?_
  refine a_op0 rfl (o_st (N := 2) tn94 rfl rfl (by first | exact good_slo rfl | exact good_slo' rfl | rfl) rfl rfl) ?_
  refine a_op rfl (o_as rfl) ?_
  refine a_nil ?_
  refine tq_n ?_
  refine awp_ret ?_
  refine r_tup (xs := []) rfl ⟨c_ag tg94 tn94 rfl rfl, rfl, trivial⟩ ?_
  exact rs_pur (by simp [sortAV]) rfl
end Go.Ab.S
