/- What functions of this program compute, and the laws of what they compute, under the bounds on lengths that each contract states. -/
import Derived.Test.YtegbbhaghlcckaaSE

set_option linter.unusedSimpArgs false
set_option linter.unusedVariables false
namespace Go.Ab.S
open Go Go.Ab Go.Proofs

noncomputable def r30_0 : Array Oper := opsAt Try.f30 [0]
theorem r30_0_ok : dstOk 40 r30_0.toList = true ∧ r30_0.toList.all (fun o => noDefer o.op) = true := by decide +kernel
noncomputable def r30_1 : Array Oper := opsAt Try.f30 [1, 0]
theorem r30_1_ok : dstOk 40 r30_1.toList = true ∧ r30_1.toList.all (fun o => noDefer o.op) = true := by decide +kernel
noncomputable def r30_2 : Array Oper := opsAt Try.f30 [1, 1, 0, 0]
theorem r30_2_ok : dstOk 40 r30_2.toList = true ∧ r30_2.toList.all (fun o => noDefer o.op) = true := by decide +kernel
noncomputable def r30_3 : Array Oper := opsAt Try.f30 [1, 1, 0, 1, 0, 0, 0]
theorem r30_3_ok : dstOk 40 r30_3.toList = true ∧ r30_3.toList.all (fun o => noDefer o.op) = true := by decide +kernel
noncomputable def r30_4 : Array Oper := opsAt Try.f30 [1, 1, 0, 1, 0, 0, 1, 1, 0, 0, 0]
theorem r30_4_ok : dstOk 40 r30_4.toList = true ∧ r30_4.toList.all (fun o => noDefer o.op) = true := by decide +kernel
noncomputable def r30_5 : Array Oper := opsAt Try.f30 [1, 1, 0, 1, 0, 0, 1, 1, 0, 0, 1, 0]
theorem r30_5_ok : dstOk 40 r30_5.toList = true ∧ r30_5.toList.all (fun o => noDefer o.op) = true := by decide +kernel
noncomputable def r30_6 : Array Oper := opsAt Try.f30 [1, 1, 0, 1, 0, 0, 1, 1, 0, 0, 1, 1, 0, 0, 0]
theorem r30_6_ok : dstOk 40 r30_6.toList = true ∧ r30_6.toList.all (fun o => noDefer o.op) = true := by decide +kernel
noncomputable def r30_7 : Array Oper := opsAt Try.f30 [1, 1, 0, 1, 0, 0, 1, 1, 0, 0, 1, 1, 0, 0, 1, 1, 0, 0, 0]
theorem r30_7_ok : dstOk 40 r30_7.toList = true ∧ r30_7.toList.all (fun o => noDefer o.op) = true := by decide +kernel
noncomputable def r30_8 : Array Oper := opsAt Try.f30 [1, 1, 0, 1, 0, 0, 1, 1, 0, 0, 1, 1, 0, 0, 1, 1, 0, 0, 1, 0, 0]
theorem r30_8_ok : dstOk 40 r30_8.toList = true ∧ r30_8.toList.all (fun o => noDefer o.op) = true := by decide +kernel
noncomputable def r30_9 : Array Oper := opsAt Try.f30 [1, 1, 0, 1, 0, 0, 1, 1, 0, 0, 1, 1, 0, 0, 1, 1, 0, 0, 1, 0, 1, 0, 0]
theorem r30_9_ok : dstOk 40 r30_9.toList = true ∧ r30_9.toList.all (fun o => noDefer o.op) = true := by decide +kernel
noncomputable def r30_10 : Array Oper := opsAt Try.f30 [1, 1, 0, 1, 0, 0, 1, 1, 0, 0, 1, 1, 0, 0, 1, 1, 0, 0, 1, 1]
theorem r30_10_ok : dstOk 40 r30_10.toList = true ∧ r30_10.toList.all (fun o => noDefer o.op) = true := by decide +kernel
noncomputable def r30_11 : Array Oper := opsAt Try.f30 [1, 1, 0, 1, 0, 0, 1, 1, 0, 0, 1, 1, 0, 0, 1, 1, 1]
theorem r30_11_ok : dstOk 40 r30_11.toList = true ∧ r30_11.toList.all (fun o => noDefer o.op) = true := by decide +kernel
noncomputable def b30_0 : Code := (.seq (.region 6 r30_6 false) (.seq (.cond (.tmp 28) .skip (.exit 2)) (.seq (.block 3 (.seq (.region 7 r30_7 false) (.seq (.seq (.region 8 r30_8 false) (.cond (.tmp 34) (.seq (.region 9 r30_9 false) .ret) .skip)) (.region 10 r30_10 false)))) (.region 11 r30_11 false))))
noncomputable def r30_12 : Array Oper := opsAt Try.f30 [1, 1, 0, 1, 0, 0, 1, 1, 1]
theorem r30_12_ok : dstOk 40 r30_12.toList = true ∧ r30_12.toList.all (fun o => noDefer o.op) = true := by decide +kernel
noncomputable def b30_1 : Code := (.seq (.region 3 r30_3 false) (.seq (.cond (.tmp 22) .skip (.exit 0)) (.seq (.block 1 (.seq (.region 4 r30_4 false) (.seq (.region 5 r30_5 false) (.block 2 (.loop b30_0))))) (.region 12 r30_12 false))))
noncomputable def r30_13 : Array Oper := opsAt Try.f30 [1, 1, 1, 0]
theorem r30_13_ok : dstOk 40 r30_13.toList = true ∧ r30_13.toList.all (fun o => noDefer o.op) = true := by decide +kernel
noncomputable def c30 : Code := (.seq (.region 0 r30_0 false) (.seq (.region 1 r30_1 false) (.seq (.seq (.region 2 r30_2 true) (.block 0 (.loop b30_1))) (.seq (.region 13 r30_13 false) .ret))))
theorem body30 : Try.f30.body = some c30 := by kernel_rfl
theorem places_ok (s : MS) (hd : (allR s).flatten.Nodup) (hb : ∀ r ∈ allR s, r.length ≤ 1000000) (hl : s.rows.length ≤ 100000) : PureCall Try.prog GL 30 [passAV s] (.tup [.pm (mpI (ones (allR s).flatten)), .raw (.bool true)]) := by
  refine pure_of_body Try.func30 body30 (Nat.le_of_ble_eq_true rfl) (by simp) (pur_plc _ _) ?_
  refine w_keep [(0, passAV s)] ⟨rfl, trivial⟩ ?_
  unfold c30
  have hal : (allR s).length = s.rows.length + 2 := by simp [allR]
  refine awp_seq ?_
  refine w_reg (l := r30_0.toList) rfl r30_0_ok ?_
  refine a_op rfl (o_box (N := 0) rfl (by rfl) rfl rfl) ?_
  refine a_op rfl (o_as rfl) ?_
  refine a_op rfl (o_as rfl) ?_
  refine a_nil ?_
  refine tq_n ?_
  refine awp_seq ?_
  refine w_reg (l := r30_1.toList) rfl r30_1_ok ?_
  refine a_op rfl (o_mm (N := 1) rfl rfl) ?_
  refine a_op rfl (o_as rfl) ?_
  refine a_nil ?_
  refine tq_n ?_
  refine awp_seq ?_
  refine awp_seq ?_
  refine w_ph 1 (by decide) rfl ?_
  refine awp_draw ⟨[[], [], [1], [0, 1, 2], [], [4], [], [6], [4, 5, 6, 7], [0, 1, 2, 3, 4, 5, 6, 7, 8], [0, 1, 2, 3, 4, 5, 6, 7, 8, 9], []], [[], [1], [11], [10, 12], [1], [14], [1], [16], [15, 17], [13, 18], [19], []], [[2], [], [0], [2], [], [0], [], [0], [], [2], [2], []], [some 2, none, none, some 2, none, none, none, none, none, some 2, none, none]⟩ mo r30_2_ok (by decide +kernel) (l := r30_2.toList) rfl ?_
  refine d_w rfl rfl rfl (fun _ => o_bsD tE57 (by decide) rfl rfl rfl rfl) rfl rfl rfl ?_
  refine d_op rfl rfl rfl (fun _ => (by first | exact o_fa tf60_0 rfl rfl | exact o_fap tf60_0 rfl rfl)) ?_
  refine d_op rfl rfl rfl (fun _ => (by first | exact o_ld tg57 rfl rfl | exact o_ldp tg57 rfl rfl rfl rfl)) ?_
  refine d_w rfl rfl rfl (fun _ => o_apD tE57 rfl rfl rfl rfl rfl (by simp) (by simp; omega) (by simp; omega) rfl rfl rfl) rfl rfl rfl ?_
  refine d_op rfl rfl rfl (fun _ => (by first | exact o_fa tf60_2 rfl rfl | exact o_fap tf60_2 rfl rfl)) ?_
  refine d_op rfl rfl rfl (fun _ => (by first | exact o_ld tg34 rfl rfl | exact o_ldp tg34 rfl rfl rfl rfl)) ?_
  refine d_op rfl rfl rfl (fun _ => (by first | exact o_fa tf60_3 rfl rfl | exact o_fap tf60_3 rfl rfl)) ?_
  refine d_op rfl rfl rfl (fun _ => (by first | exact o_ld tg34 rfl rfl | exact o_ldp tg34 rfl rfl rfl rfl)) ?_
  refine d_op rfl rfl rfl (fun _ => o_bs tE57 (by decide) rfl rfl rfl) ?_
  refine d_w rfl rfl rfl (fun _ => o_apD tE57 rfl rfl (by simp) rfl rfl (by simp) (by simp; omega) (by simp; omega) rfl rfl rfl) rfl rfl rfl ?_
  refine d_op rfl rfl rfl (fun _ => o_len (j := (allR s).length) rfl rfl (by simp [allR]) tl57) ?_
  refine d_op rfl rfl rfl (fun _ => o_mv rfl) ?_
  refine d_nil ?_
  refine tq_n ?_
  refine awp_block ?_
  refine w_loop (fun i : Nat => i ≤ (allR s).length) (fun i => [(4, .mp 1), (19, .slo 2 3 0 (allR s).length), (20, .raw (.int .i64 (((allR s).length : Nat) : Int))), (21, .raw (.int .i64 ((i : Nat) : Int)))]) (fun i => [.var [.sl 1 false (s.rows.map rowAV), rowAV s.swept, rowAV s.over, rowAV s.rej, .sl 3 false (s.ev.map evAV)], .mapo (mpI (ones (((allR s).take i).flatten))), .vec 1 3 ((allR s).map rowAV)]) (fun i => (allR s).length - i) (0) (by simp) ⟨(by first | exact sub_int rfl (by omega) | rfl | exact sub_eq rfl (by simp [allR])), (by first | exact sub_int rfl (by omega) | rfl | exact sub_eq rfl (by simp [allR])), (by first | exact sub_int rfl (by omega) | rfl | exact sub_eq rfl (by simp [allR])), (by first | exact sub_int rfl (by omega) | rfl | exact sub_eq rfl (by simp [allR])), trivial⟩ (by simp [ones, mpI, mpE, allR, rowAV, passAV, AV.cells]) ?_
  intro i hp
  unfold b30_1
  refine awp_seq ?_
  refine w_reg (l := r30_3.toList) rfl r30_3_ok ?_
  refine a_if rfl (o_lt rfl rfl) (fun h1 => ?_) (fun h2 => ?_)
  · refine a_nil ?_
    refine tq_n ?_
    refine awp_seq ?_
    refine w_true rfl ?_
    refine awp_skip ?_
    refine tq_n ?_
    refine awp_seq ?_
    refine awp_block ?_
    refine awp_seq ?_
    have hi : i < (allR s).length := by omega
    have hbi := hb _ (List.getElem_mem hi)
    refine w_reg (l := r30_4.toList) rfl r30_4_ok ?_
    refine a_op rfl (o_ixo te57 tn34 rfl rfl rfl rfl hi) ?_
    refine a_op rfl (o_ldp (el := rowAV (allR s)[i]) tg34 rfl rfl (by rw [Nat.zero_add]; exact mAt hi) rfl) ?_
    refine a_op rfl (o_as rfl) ?_
    refine a_nil ?_
    refine tq_n ?_
    refine awp_seq ?_
    refine w_reg (l := r30_5.toList) rfl r30_5_ok ?_
    refine a_op rfl (o_mv rfl) ?_
    refine a_op rfl (o_len rfl rfl (by first | exact List.length_map .. | rfl) tl34) ?_
    refine a_op rfl (o_mv rfl) ?_
    refine a_nil ?_
    refine tq_n ?_
    refine awp_block ?_
    refine w_loop (fun j : Nat => j ≤ (allR s)[i].length) (fun j => [(4, .mp 1), (19, .slo 2 3 0 (allR s).length), (20, .raw (.int .i64 (((allR s).length : Nat) : Int))), (21, .raw (.int .i64 ((i : Nat) : Int))), (25, rowAV (allR s)[i]), (26, .raw (.int .i64 (((allR s)[i].length : Nat) : Int))), (27, .raw (.int .i64 ((j : Nat) : Int)))]) (fun j => [.var [.sl 1 false (s.rows.map rowAV), rowAV s.swept, rowAV s.over, rowAV s.rej, .sl 3 false (s.ev.map evAV)], .mapo (mpI (ones (((allR s).take i).flatten ++ (allR s)[i].take j))), .vec 1 3 ((allR s).map rowAV)]) (fun j => (allR s)[i].length - j) (0) (by simp) ⟨(by first | exact sub_int rfl (by omega) | rfl | exact sub_eq rfl (by simp [allR])), (by first | exact sub_int rfl (by omega) | rfl | exact sub_eq rfl (by simp [allR])), (by first | exact sub_int rfl (by omega) | rfl | exact sub_eq rfl (by simp [allR])), (by first | exact sub_int rfl (by omega) | rfl | exact sub_eq rfl (by simp [allR])), (by first | exact sub_int rfl (by omega) | rfl | exact sub_eq rfl (by simp [allR])), (by first | exact sub_int rfl (by omega) | rfl | exact sub_eq rfl (by simp [allR])), (by first | exact sub_int rfl (by omega) | rfl | exact sub_eq rfl (by simp [allR])), trivial⟩ (by simp) ?_
    intro j hq
    unfold b30_0
    refine awp_seq ?_
    refine w_reg (l := r30_6.toList) rfl r30_6_ok ?_
    refine a_if rfl (o_lt rfl rfl) (fun h3 => ?_) (fun h4 => ?_)
    · refine a_nil ?_
      refine tq_n ?_
      refine awp_seq ?_
      refine w_true rfl ?_
      refine awp_skip ?_
      refine tq_n ?_
      refine awp_seq ?_
      refine awp_block ?_
      refine awp_seq ?_
      have hj : j < (allR s)[i].length := by omega
      have hnot := nodup_at hd hi hj
      have hg : (mget (ones (((allR s).take i).flatten ++ (allR s)[i].take j)) (allR s)[i][j]).getD 0 = 0 := by rw [ones_get, if_neg hnot]; rfl
      refine w_reg (l := r30_7.toList) rfl r30_7_ok ?_
      refine a_op rfl (o_ix te34 tn3 rfl rfl rfl (ixm _ _ _ hj)) ?_
      refine a_op rfl ((by first | exact o_ld tg3 rfl rfl | exact o_ldp tg3 rfl rfl rfl rfl)) ?_
      refine a_op rfl (o_as rfl) ?_
      refine a_nil ?_
      refine tq_n ?_
      refine awp_seq ?_
      refine awp_seq ?_
      refine w_reg (l := r30_8.toList) rfl r30_8_ok ?_
      refine a_op rfl (o_mv rfl) ?_
      refine a_op rfl (o_mv rfl) ?_
      refine a_op rfl (o_lkI0 rfl rfl rfl) ?_
      rw [hg]
      refine a_op rfl (elD (o_gt rfl rfl) (w := .raw (.bool false)) rfl) ?_
      refine a_nil ?_
      refine tq_n ?_
      refine w_false rfl ?_
      refine awp_skip ?_
      refine tq_n ?_
      refine w_reg (l := r30_10.toList) rfl r30_10_ok ?_
      refine a_op rfl (o_mv rfl) ?_
      refine a_op rfl (o_mv rfl) ?_
      refine a_op0 rfl (o_muI rfl rfl rfl rfl rfl) ?_
      refine a_nil ?_
      refine bq_n ?_
      refine tq_n ?_
      refine w_reg (l := r30_11.toList) rfl r30_11_ok ?_
      refine a_op rfl (o_add rfl rfl (by simp only [klo, khi]; omega)) ?_
      refine a_op rfl (o_mv rfl) ?_
      refine a_nil ?_
      refine tq_n ?_
      exact ⟨j + 1, ⟨by omega, by omega⟩, ⟨(by first | exact sub_int rfl (by omega) | rfl | exact sub_eq rfl (by simp [allR])), (by first | exact sub_int rfl (by omega) | rfl | exact sub_eq rfl (by simp [allR])), (by first | exact sub_int rfl (by omega) | rfl | exact sub_eq rfl (by simp [allR])), (by first | exact sub_int rfl (by omega) | rfl | exact sub_eq rfl (by simp [allR])), (by first | exact sub_int rfl (by omega) | rfl | exact sub_eq rfl (by simp [allR])), (by first | exact sub_int rfl (by omega) | rfl | exact sub_eq rfl (by simp [allR])), (by first | exact sub_int rfl (by omega) | rfl | exact sub_eq rfl (by simp [allR])), trivial⟩, by rw [List.take_succ_eq_append_getElem hj, ← List.append_assoc, ones_snoc]⟩
    refine a_nil ?_
    refine tq_n ?_
    refine awp_seq ?_
    refine w_false rfl ?_
    refine awp_exit ?_
    refine tq_x ?_
    refine tq_x ?_
    refine bq_hit ?_
    refine bq_n ?_
    refine tq_n ?_
    refine w_reg (l := r30_12.toList) rfl r30_12_ok ?_
    refine a_op rfl (o_add rfl rfl (by simp only [klo, khi]; omega)) ?_
    refine a_op rfl (o_mv rfl) ?_
    refine a_nil ?_
    refine tq_n ?_
    exact ⟨i + 1, ⟨by omega, by omega⟩, ⟨(by first | exact sub_int rfl (by omega) | rfl | exact sub_eq rfl (by simp [allR])), (by first | exact sub_int rfl (by omega) | rfl | exact sub_eq rfl (by simp [allR])), (by first | exact sub_int rfl (by omega) | rfl | exact sub_eq rfl (by simp [allR])), (by first | exact sub_int rfl (by omega) | rfl | exact sub_eq rfl (by simp [allR])), trivial⟩, by rw [show j = (allR s)[i].length by omega, List.take_length, List.take_succ_eq_append_getElem hi, List.flatten_append]; simp⟩
  refine a_nil ?_
  refine tq_n ?_
  refine awp_seq ?_
  refine w_false rfl ?_
  refine awp_exit ?_
  refine tq_x ?_
  refine tq_x ?_
  refine bq_hit ?_
  refine tq_n ?_
  refine awp_seq ?_
  refine w_reg (l := r30_13.toList) rfl r30_13_ok ?_
  refine a_op rfl (o_mv rfl) ?_
  refine a_op rfl (o_as rfl) ?_
  refine a_op rfl (o_as rfl) ?_
  refine a_nil ?_
  refine tq_n ?_
  refine awp_ret ?_
  refine r_tup (xs := []) rfl ⟨rfl, rfl, trivial⟩ ?_
  exact rs_tup ⟨by rw [show i = (allR s).length by omega, List.take_length]; exact rs_mpI id rfl, rs_pur (by simp) rfl, trivial⟩
theorem mulb {a b : Int} (h1 : 1 ≤ a) (h2 : a ≤ 16) (h3 : 0 ≤ b) (h4 : b ≤ 300) : klo .i64 ≤ a * b ∧ a * b ≤ khi .i64 := by
  have h5 : 0 ≤ a * b := Int.mul_nonneg (by omega) h3
  have h6 : a * b ≤ 16 * 300 := Int.mul_le_mul h2 h4 h3 (by omega)
  simp only [klo, khi]; omega

noncomputable def r4_0 : Array Oper := opsAt Try.f4 [0]
theorem r4_0_ok : dstOk 269 r4_0.toList = true ∧ r4_0.toList.all (fun o => noDefer o.op) = true := by decide +kernel
noncomputable def r4_1 : Array Oper := opsAt Try.f4 [1, 0]
theorem r4_1_ok : dstOk 269 r4_1.toList = true ∧ r4_1.toList.all (fun o => noDefer o.op) = true := by decide +kernel
noncomputable def r4_2 : Array Oper := opsAt Try.f4 [1, 1, 0]
theorem r4_2_ok : dstOk 269 r4_2.toList = true ∧ r4_2.toList.all (fun o => noDefer o.op) = true := by decide +kernel
noncomputable def r4_3 : Array Oper := opsAt Try.f4 [1, 1, 1, 0]
theorem r4_3_ok : dstOk 269 r4_3.toList = true ∧ r4_3.toList.all (fun o => noDefer o.op) = true := by decide +kernel
noncomputable def r4_4 : Array Oper := opsAt Try.f4 [1, 1, 1, 1, 0, 0]
theorem r4_4_ok : dstOk 269 r4_4.toList = true ∧ r4_4.toList.all (fun o => noDefer o.op) = true := by decide +kernel
noncomputable def r4_5 : Array Oper := opsAt Try.f4 [1, 1, 1, 1, 0, 1, 0, 0]
theorem r4_5_ok : dstOk 269 r4_5.toList = true ∧ r4_5.toList.all (fun o => noDefer o.op) = true := by decide +kernel
noncomputable def r4_6 : Array Oper := opsAt Try.f4 [1, 1, 1, 1, 1, 0, 0]
theorem r4_6_ok : dstOk 269 r4_6.toList = true ∧ r4_6.toList.all (fun o => noDefer o.op) = true := by decide +kernel
noncomputable def r4_7 : Array Oper := opsAt Try.f4 [1, 1, 1, 1, 1, 0, 1, 0]
theorem r4_7_ok : dstOk 269 r4_7.toList = true ∧ r4_7.toList.all (fun o => noDefer o.op) = true := by decide +kernel
noncomputable def r4_8 : Array Oper := opsAt Try.f4 [1, 1, 1, 1, 1, 0, 1, 1, 0, 0]
theorem r4_8_ok : dstOk 269 r4_8.toList = true ∧ r4_8.toList.all (fun o => noDefer o.op) = true := by decide +kernel
noncomputable def r4_9 : Array Oper := opsAt Try.f4 [1, 1, 1, 1, 1, 1, 0]
theorem r4_9_ok : dstOk 269 r4_9.toList = true ∧ r4_9.toList.all (fun o => noDefer o.op) = true := by decide +kernel
noncomputable def r4_10 : Array Oper := opsAt Try.f4 [1, 1, 1, 1, 1, 1, 1, 0, 0]
theorem r4_10_ok : dstOk 269 r4_10.toList = true ∧ r4_10.toList.all (fun o => noDefer o.op) = true := by decide +kernel
noncomputable def r4_11 : Array Oper := opsAt Try.f4 [1, 1, 1, 1, 1, 1, 1, 0, 1, 0, 0, 0]
theorem r4_11_ok : dstOk 269 r4_11.toList = true ∧ r4_11.toList.all (fun o => noDefer o.op) = true := by decide +kernel
noncomputable def r4_12 : Array Oper := opsAt Try.f4 [1, 1, 1, 1, 1, 1, 1, 0, 1, 0, 0, 1, 1, 0, 0, 0]
theorem r4_12_ok : dstOk 269 r4_12.toList = true ∧ r4_12.toList.all (fun o => noDefer o.op) = true := by decide +kernel
noncomputable def r4_17 : Array Oper := opsAt Try.f4 [1, 1, 1, 1, 1, 1, 1, 0, 1, 0, 0, 1, 1, 0, 0, 1, 0, 0]
theorem r4_17_ok : dstOk 269 r4_17.toList = true ∧ r4_17.toList.all (fun o => noDefer o.op) = true := by decide +kernel
noncomputable def r4_18 : Array Oper := opsAt Try.f4 [1, 1, 1, 1, 1, 1, 1, 0, 1, 0, 0, 1, 1, 0, 0, 1, 0, 1, 0, 0, 0]
theorem r4_18_ok : dstOk 269 r4_18.toList = true ∧ r4_18.toList.all (fun o => noDefer o.op) = true := by decide +kernel
noncomputable def r4_19 : Array Oper := opsAt Try.f4 [1, 1, 1, 1, 1, 1, 1, 0, 1, 0, 0, 1, 1, 0, 0, 1, 0, 1, 0, 0, 1, 0]
theorem r4_19_ok : dstOk 269 r4_19.toList = true ∧ r4_19.toList.all (fun o => noDefer o.op) = true := by decide +kernel
noncomputable def r4_20 : Array Oper := opsAt Try.f4 [1, 1, 1, 1, 1, 1, 1, 0, 1, 0, 0, 1, 1, 0, 0, 1, 0, 1, 0, 0, 1, 1, 0, 0]
theorem r4_20_ok : dstOk 269 r4_20.toList = true ∧ r4_20.toList.all (fun o => noDefer o.op) = true := by decide +kernel
noncomputable def r4_21 : Array Oper := opsAt Try.f4 [1, 1, 1, 1, 1, 1, 1, 0, 1, 0, 0, 1, 1, 0, 0, 1, 0, 1, 0, 1]
theorem r4_21_ok : dstOk 269 r4_21.toList = true ∧ r4_21.toList.all (fun o => noDefer o.op) = true := by decide +kernel
noncomputable def r4_22 : Array Oper := opsAt Try.f4 [1, 1, 1, 1, 1, 1, 1, 0, 1, 0, 0, 1, 1, 0, 0, 1, 0, 1, 1, 0]
theorem r4_22_ok : dstOk 269 r4_22.toList = true ∧ r4_22.toList.all (fun o => noDefer o.op) = true := by decide +kernel
noncomputable def r4_23 : Array Oper := opsAt Try.f4 [1, 1, 1, 1, 1, 1, 1, 0, 1, 0, 0, 1, 1, 0, 0, 1, 0, 1, 1, 1, 0]
theorem r4_23_ok : dstOk 269 r4_23.toList = true ∧ r4_23.toList.all (fun o => noDefer o.op) = true := by decide +kernel
noncomputable def r4_13 : Array Oper := opsAt Try.f4 [1, 1, 1, 1, 1, 1, 1, 0, 1, 0, 0, 1, 1, 0, 0, 1, 0, 1, 1, 1, 1, 0, 0]
theorem r4_13_ok : dstOk 269 r4_13.toList = true ∧ r4_13.toList.all (fun o => noDefer o.op) = true := by decide +kernel
noncomputable def r4_14 : Array Oper := opsAt Try.f4 [1, 1, 1, 1, 1, 1, 1, 0, 1, 0, 0, 1, 1, 0, 0, 1, 0, 1, 1, 1, 1, 0, 1, 0]
theorem r4_14_ok : dstOk 269 r4_14.toList = true ∧ r4_14.toList.all (fun o => noDefer o.op) = true := by decide +kernel
noncomputable def r4_15 : Array Oper := opsAt Try.f4 [1, 1, 1, 1, 1, 1, 1, 0, 1, 0, 0, 1, 1, 0, 0, 1, 0, 1, 1, 1, 1, 0, 1, 1, 0, 0]
theorem r4_15_ok : dstOk 269 r4_15.toList = true ∧ r4_15.toList.all (fun o => noDefer o.op) = true := by decide +kernel
noncomputable def r4_16 : Array Oper := opsAt Try.f4 [1, 1, 1, 1, 1, 1, 1, 0, 1, 0, 0, 1, 1, 0, 0, 1, 0, 1, 1, 1, 1, 1]
theorem r4_16_ok : dstOk 269 r4_16.toList = true ∧ r4_16.toList.all (fun o => noDefer o.op) = true := by decide +kernel
noncomputable def r4_24 : Array Oper := opsAt Try.f4 [1, 1, 1, 1, 1, 1, 1, 0, 1, 0, 0, 1, 1, 1]
theorem r4_24_ok : dstOk 269 r4_24.toList = true ∧ r4_24.toList.all (fun o => noDefer o.op) = true := by decide +kernel
noncomputable def b4_0 : Code := (.seq (.region 11 r4_11 false) (.seq (.cond (.tmp 76) .skip (.exit 0)) (.seq (.block 1 (.seq (.region 12 r4_12 false) (.block 2 (.seq (.region 17 r4_17 false) (.cond (.tmp 108) (.seq (.seq (.region 18 r4_18 false) (.seq (.region 19 r4_19 true) (.cond (.tmp 131) (.seq (.region 20 r4_20 false) .ret) .skip))) (.region 21 r4_21 false)) (.seq (.region 22 r4_22 true) (.cond (.tmp 139) (.region 23 r4_23 false) (.seq (.seq (.region 13 r4_13 false) (.seq (.region 14 r4_14 true) (.cond (.tmp 99) (.seq (.region 15 r4_15 false) .ret) .skip))) (.region 16 r4_16 false))))))))) (.region 24 r4_24 false))))
noncomputable def r4_25 : Array Oper := opsAt Try.f4 [1, 1, 1, 1, 1, 1, 1, 1, 0]
theorem r4_25_ok : dstOk 269 r4_25.toList = true ∧ r4_25.toList.all (fun o => noDefer o.op) = true := by decide +kernel
noncomputable def r4_26 : Array Oper := opsAt Try.f4 [1, 1, 1, 1, 1, 1, 1, 1, 1, 0, 0]
theorem r4_26_ok : dstOk 269 r4_26.toList = true ∧ r4_26.toList.all (fun o => noDefer o.op) = true := by decide +kernel
noncomputable def r4_27 : Array Oper := opsAt Try.f4 [1, 1, 1, 1, 1, 1, 1, 1, 1, 0, 1, 0, 0, 0]
theorem r4_27_ok : dstOk 269 r4_27.toList = true ∧ r4_27.toList.all (fun o => noDefer o.op) = true := by decide +kernel
noncomputable def r4_28 : Array Oper := opsAt Try.f4 [1, 1, 1, 1, 1, 1, 1, 1, 1, 0, 1, 0, 0, 1, 1, 0, 0, 0]
theorem r4_28_ok : dstOk 269 r4_28.toList = true ∧ r4_28.toList.all (fun o => noDefer o.op) = true := by decide +kernel
noncomputable def r4_29 : Array Oper := opsAt Try.f4 [1, 1, 1, 1, 1, 1, 1, 1, 1, 0, 1, 0, 0, 1, 1, 0, 0, 1, 0, 0]
theorem r4_29_ok : dstOk 269 r4_29.toList = true ∧ r4_29.toList.all (fun o => noDefer o.op) = true := by decide +kernel
noncomputable def r4_30 : Array Oper := opsAt Try.f4 [1, 1, 1, 1, 1, 1, 1, 1, 1, 0, 1, 0, 0, 1, 1, 0, 0, 1, 0, 1, 0, 0]
theorem r4_30_ok : dstOk 269 r4_30.toList = true ∧ r4_30.toList.all (fun o => noDefer o.op) = true := by decide +kernel
noncomputable def r4_31 : Array Oper := opsAt Try.f4 [1, 1, 1, 1, 1, 1, 1, 1, 1, 0, 1, 0, 0, 1, 1, 0, 0, 1, 1, 0]
theorem r4_31_ok : dstOk 269 r4_31.toList = true ∧ r4_31.toList.all (fun o => noDefer o.op) = true := by decide +kernel
noncomputable def r4_32 : Array Oper := opsAt Try.f4 [1, 1, 1, 1, 1, 1, 1, 1, 1, 0, 1, 0, 0, 1, 1, 0, 0, 1, 1, 1]
theorem r4_32_ok : dstOk 269 r4_32.toList = true ∧ r4_32.toList.all (fun o => noDefer o.op) = true := by decide +kernel
noncomputable def r4_33 : Array Oper := opsAt Try.f4 [1, 1, 1, 1, 1, 1, 1, 1, 1, 0, 1, 0, 0, 1, 1, 1]
theorem r4_33_ok : dstOk 269 r4_33.toList = true ∧ r4_33.toList.all (fun o => noDefer o.op) = true := by decide +kernel
noncomputable def b4_1 : Code := (.seq (.region 27 r4_27 false) (.seq (.cond (.tmp 182) .skip (.exit 3)) (.seq (.block 4 (.seq (.region 28 r4_28 false) (.seq (.seq (.region 29 r4_29 true) (.cond (.tmp 228) (.seq (.region 30 r4_30 false) .ret) .skip)) (.seq (.region 31 r4_31 false) (.region 32 r4_32 false))))) (.region 33 r4_33 false))))
noncomputable def r4_34 : Array Oper := opsAt Try.f4 [1, 1, 1, 1, 1, 1, 1, 1, 1, 1, 0]
theorem r4_34_ok : dstOk 269 r4_34.toList = true ∧ r4_34.toList.all (fun o => noDefer o.op) = true := by decide +kernel
noncomputable def c4 : Code := (.seq (.region 0 r4_0 false) (.seq (.region 1 r4_1 false) (.seq (.region 2 r4_2 false) (.seq (.region 3 r4_3 false) (.seq (.seq (.region 4 r4_4 false) (.cond (.tmp 54) (.seq (.region 5 r4_5 false) .ret) .skip)) (.seq (.seq (.region 6 r4_6 false) (.seq (.region 7 r4_7 false) (.cond (.tmp 68) (.seq (.region 8 r4_8 false) .ret) .skip))) (.seq (.region 9 r4_9 false) (.seq (.seq (.region 10 r4_10 false) (.block 0 (.loop b4_0))) (.seq (.region 25 r4_25 false) (.seq (.seq (.region 26 r4_26 false) (.block 3 (.loop b4_1))) (.seq (.region 34 r4_34 false) .ret)))))))))))
theorem body4 : Try.f4.body = some c4 := by kernel_rfl
theorem keeps_ok (bc : Fl) (caps : List Int) (hlc : caps.length ≤ 9223372036854775807) (hxc : ∀ x ∈ caps, u8r x) (bl : Fl) (l : List Int) (hll : l.length ≤ 9223372036854775807) (hxl : ∀ x ∈ l, u8r x) (x : Int) (hx : 0 ≤ x ∧ x ≤ 255) : PureCall Try.prog GL 4 [.sl 1 bc (caps.map u8AV), .sl 1 bl (l.map u8AV), .raw (.int .u8 x)] (.raw (.bool true)) := by
  refine pure_of_body Try.func4 body4 (Nat.le_of_ble_eq_true rfl) (by simp) (by simp) ?_
  refine w_keep [(0, .sl 1 bc (caps.map u8AV)), (1, .sl 1 bl (l.map u8AV)), (2, .raw (.int .u8 x))] ⟨rfl, rfl, rfl, trivial⟩ ?_
  unfold c4
  obtain ⟨cs, hcs⟩ : ∃ cs, cs = machF caps := ⟨_, rfl⟩
  obtain ⟨hc0, hc12, hc16⟩ := machF_in hxc
  have hrt := machF_right hxc
  rw [← hcs] at hc0 hc12 hc16 hrt
  obtain ⟨L, hL⟩ : ∃ L, L = fedF cs l := ⟨_, rfl⟩
  have hLl := fedF_len cs l
  have hLi := fedF_in cs l
  have hLw := fedF_wrong cs l
  have hLd := fedF_nodup cs l
  rw [← hL] at hLl hLi hLw hLd
  have hpos : ∀ c ∈ cs, 1 ≤ c := fun c hc => (hc16 c hc).1
  have hin : ∀ x ∈ L, x.stk < cs.length := fun x hx => (hLi x hx).2
  obtain ⟨sw, hsw⟩ : ∃ sw : Int, sw = x % 201 := ⟨_, rfl⟩
  have hsw0 : 0 ≤ sw ∧ sw ≤ 200 := by omega
  obtain ⟨S, hS⟩ : ∃ S, S = playF cs sw L := ⟨_, rfl⟩
  have hcount := playF_count (sw := sw) (by omega) hpos hin
  have hnd := playF_nodup (sw := sw) (by omega) hpos hin hLd
  have hiv := playS_inv (sw := sw) hpos (by omega) hin L.length (Nat.le_refl _)
  rw [playS_all] at hiv
  rw [← hS] at hcount hnd hiv
  have hir := hiv.rows; have his := hiv.swept
  have hall : S.rows.flatten.length + S.over.length + S.rej.length = L.length := by simp only [allM, List.length_append] at hcount; exact hcount
  have hrb : ∀ r ∈ allR S, r.length ≤ 1000000 := fun r hr => by
    have h1 : r.length ≤ (allR S).flatten.length := (List.sublist_flatten_of_mem hr).length_le
    rw [allR_flat, hcount] at h1; omega
  have hlist : ∀ k (h : k < S.rows.length), S.rows[k].length ≤ 150 := fun k h => by
    have h1 : S.rows[k].length ≤ S.rows.flatten.length := (List.sublist_flatten_of_mem (List.getElem_mem h)).length_le
    omega
  refine awp_seq ?_
  refine w_reg (l := r4_0.toList) rfl r4_0_ok ?_
  refine a_op rfl (o_as rfl) ?_
  refine a_nil ?_
  refine tq_n ?_
  refine awp_seq ?_
  refine w_reg (l := r4_1.toList) rfl r4_1_ok ?_
  refine a_op rfl (o_mv rfl) ?_
  refine a_pure rfl rfl rfl cb27 (machine_ok bc caps hlc hxc) ?_
  rw [← hcs]
  refine a_op rfl (o_as rfl) ?_
  refine a_nil ?_
  refine tq_n ?_
  refine awp_seq ?_
  refine w_reg (l := r4_2.toList) rfl r4_2_ok ?_
  refine a_op rfl (o_mv rfl) ?_
  refine a_op rfl (o_mv rfl) ?_
  refine a_pure rfl rfl rfl cb28 (fed_ok _ cs (by omega) bl l hll hxl) ?_
  rw [← hL]
  refine a_op rfl (o_mv rfl) ?_
  refine a_op rfl (o_rem rfl rfl (by omega) (by omega)) ?_
  rw [← hsw]
  refine a_op rfl (o_cv tk5 tk3 rfl (by simp only [klo, khi]; omega)) ?_
  refine a_op rfl (o_as rfl) ?_
  refine a_op rfl (o_as rfl) ?_
  refine a_nil ?_
  refine tq_n ?_
  refine awp_seq ?_
  refine w_reg (l := r4_3.toList) rfl r4_3_ok ?_
  refine a_op rfl (o_mv rfl) ?_
  refine a_op rfl (o_mv rfl) ?_
  refine a_op rfl (o_mv rfl) ?_
  refine a_pure rfl rfl rfl cb29 (run_good _ cs sw _ L hrt (by omega) (by omega) hLw) ?_
  rw [← hS]
  refine a_op rfl (o_mv rfl) ?_
  refine a_op rfl (o_ex rfl rfl) ?_
  refine a_op rfl (o_ex rfl rfl) ?_
  refine a_op rfl (o_al (N := 0) tz60 rfl rfl rfl) ?_
  refine a_op0 rfl (o_st (N := 4) tn60 rfl rfl rfl rfl rfl) ?_
  refine a_op rfl (o_as rfl) ?_
  refine a_nil ?_
  refine tq_n ?_
  refine awp_seq ?_
  refine awp_seq ?_
  refine w_reg (l := r4_4.toList) rfl r4_4_ok ?_
  refine a_op rfl (o_mv rfl) ?_
  refine a_op rfl (elD (o_ne rfl rfl) (w := .raw (.bool false)) rfl) ?_
  refine a_op rfl (o_mv rfl) ?_
  refine a_op rfl ((by first | exact o_fa tf60_0 rfl rfl | exact o_fap tf60_0 rfl rfl)) ?_
  refine a_op rfl ((by first | exact o_ld tg57 rfl rfl | exact o_ldp tg57 rfl rfl rfl rfl)) ?_
  refine a_op rfl (o_len rfl rfl (by first | exact List.length_map .. | rfl) tl57) ?_
  refine a_op rfl (o_mv rfl) ?_
  refine a_op rfl (o_len rfl rfl (by first | exact List.length_map .. | rfl) tl34) ?_
  refine a_if rfl (o_ne rfl rfl) (fun h1 => ?_) (fun h2 => ?_)
  · omega
  refine a_op rfl (o_pkf rfl rfl) ?_
  refine a_op rfl (o_mv rfl) ?_
  refine a_op rfl ((by first | exact o_fa tf60_1 rfl rfl | exact o_fap tf60_1 rfl rfl)) ?_
  refine a_op rfl ((by first | exact o_ld tg34 rfl rfl | exact o_ldp tg34 rfl rfl rfl rfl)) ?_
  refine a_op rfl (o_len rfl rfl (by first | exact List.length_map .. | rfl) tl34) ?_
  refine a_op rfl (o_mv rfl) ?_
  refine a_op rfl (o_len rfl rfl (by first | exact List.length_map .. | rfl) tl34) ?_
  refine a_if rfl (o_ne rfl rfl) (fun h3 => ?_) (fun h4 => ?_)
  · omega
  refine a_op rfl (o_pkf rfl rfl) ?_
  refine a_nil ?_
  refine tq_n ?_
  refine w_false rfl ?_
  refine awp_skip ?_
  refine tq_n ?_
  refine awp_seq ?_
  refine awp_seq ?_
  refine w_reg (l := r4_6.toList) rfl r4_6_ok ?_
  refine a_op rfl ((by first | exact o_ldg tg60 tn60 rfl rfl | exact o_ldpg tg60 tn60 rfl rfl rfl rfl)) ?_
  refine a_pure rfl rfl rfl cb30 (places_ok S (by rw [allR_flat]; exact hnd) hrb (by omega)) ?_
  refine a_op rfl (o_mv rfl) ?_
  refine a_op rfl (o_ex rfl rfl) ?_
  refine a_op rfl (o_ex rfl rfl) ?_
  refine a_op rfl (o_as rfl) ?_
  refine a_op rfl (o_as rfl) ?_
  refine a_nil ?_
  refine tq_n ?_
  refine awp_seq ?_
  refine w_reg (l := r4_7.toList) rfl r4_7_ok ?_
  refine a_op rfl (o_mv rfl) ?_
  refine a_op rfl (o_ntt rfl) ?_
  refine a_op rfl (o_mv rfl) ?_
  refine a_op rfl (o_mv rfl) ?_
  refine a_op rfl (o_len (q := L.length) (j := L.length) rfl (by simp [lenAV, mpI, mpE, ones_len, allR_flat, hnd, hcount]) rfl tl38) ?_
  refine a_op rfl (o_mv rfl) ?_
  refine a_op rfl (o_len rfl rfl (by first | exact List.length_map .. | rfl) tl68) ?_
  refine a_op rfl (elD (o_ne rfl rfl) (w := .raw (.bool false)) (by simp)) ?_
  refine a_op rfl (o_pkf rfl rfl) ?_
  refine a_nil ?_
  refine tq_n ?_
  refine w_false rfl ?_
  refine awp_skip ?_
  refine tq_n ?_
  refine awp_seq ?_
  refine w_reg (l := r4_9.toList) rfl r4_9_ok ?_
  refine a_op rfl (o_mv rfl) ?_
  refine a_op rfl (o_len rfl rfl (by first | exact List.length_map .. | rfl) tl34) ?_
  refine a_op rfl (o_add rfl rfl (by simp only [klo, khi]; omega)) ?_
  refine a_opH rfl (o_ms (N := 1) tE34 rfl rfl (by omega) (by omega) (by omega) (by omega) rfl rfl) (H' := [.var [.sl 1 false (S.rows.map rowAV), rowAV S.swept, rowAV S.over, rowAV S.rej, .sl 3 false (S.ev.map evAV)], .vec 1 0 ((atK (playS cs sw L 0)).map intAV)]) (by rw [show ((cs.length : Nat) : Int) + 2 = ((cs.length + 2 : Nat) : Int) by omega, Int.toNat_natCast, show playS cs sw L 0 = newM cs sw from rfl, atK_new]) ?_
  rw [show (((cs.length : Nat) : Int) + 2).toNat = cs.length + 2 by omega]
  refine a_op rfl (o_as rfl) ?_
  refine a_nil ?_
  refine tq_n ?_
  refine awp_seq ?_
  refine awp_seq ?_
  refine w_reg (l := r4_10.toList) rfl r4_10_ok ?_
  refine a_op rfl (o_mv rfl) ?_
  refine a_op rfl (o_len rfl rfl (by first | exact List.length_map .. | rfl) tl68) ?_
  refine a_op rfl (o_mv rfl) ?_
  refine a_nil ?_
  refine tq_n ?_
  refine awp_block ?_
  refine w_loop (fun i : Nat => i ≤ L.length) (fun i => [(7, rowAV cs), (9, .raw (.int .i64 sw)), (10, .ptr 0 0), (14, .slo 1 0 0 (cs.length + 2)), (73, .sl 2 false (L.map feedAV)), (74, .raw (.int .i64 ((L.length : Nat) : Int))), (75, .raw (.int .i64 ((i : Nat) : Int)))]) (fun i => [.var [.sl 1 false (S.rows.map rowAV), rowAV S.swept, rowAV S.over, rowAV S.rej, .sl 3 false (S.ev.map evAV)], .vec 1 0 ((atK (playS cs sw L i)).map intAV)]) (fun i => L.length - i) (0) (by simp) ⟨(by first | exact sub_int rfl (by omega) | rfl | exact sub_int rfl (by rw [sum_take_succ (by omega)]) | exact sub_int rfl (by rw [sumL_succ (by omega)]; omega) | exact sub_int rfl (by simp [sumL])), (by first | exact sub_int rfl (by omega) | rfl | exact sub_int rfl (by rw [sum_take_succ (by omega)]) | exact sub_int rfl (by rw [sumL_succ (by omega)]; omega) | exact sub_int rfl (by simp [sumL])), (by first | exact sub_int rfl (by omega) | rfl | exact sub_int rfl (by rw [sum_take_succ (by omega)]) | exact sub_int rfl (by rw [sumL_succ (by omega)]; omega) | exact sub_int rfl (by simp [sumL])), (by first | exact sub_int rfl (by omega) | rfl | exact sub_int rfl (by rw [sum_take_succ (by omega)]) | exact sub_int rfl (by rw [sumL_succ (by omega)]; omega) | exact sub_int rfl (by simp [sumL])), (by first | exact sub_int rfl (by omega) | rfl | exact sub_int rfl (by rw [sum_take_succ (by omega)]) | exact sub_int rfl (by rw [sumL_succ (by omega)]; omega) | exact sub_int rfl (by simp [sumL])), (by first | exact sub_int rfl (by omega) | rfl | exact sub_int rfl (by rw [sum_take_succ (by omega)]) | exact sub_int rfl (by rw [sumL_succ (by omega)]; omega) | exact sub_int rfl (by simp [sumL])), (by first | exact sub_int rfl (by omega) | rfl | exact sub_int rfl (by rw [sum_take_succ (by omega)]) | exact sub_int rfl (by rw [sumL_succ (by omega)]; omega) | exact sub_int rfl (by simp [sumL])), trivial⟩ rfl ?_
  intro i hp
  have hvi := playS_inv (sw := sw) hpos (by omega) hin i hp
  have hri := hvi.rows
  unfold b4_0
  refine awp_seq ?_
  refine w_reg (l := r4_11.toList) rfl r4_11_ok ?_
  refine a_if rfl (o_lt rfl rfl) (fun h5 => ?_) (fun h6 => ?_)
  · refine a_nil ?_
    refine tq_n ?_
    refine awp_seq ?_
    refine w_true rfl ?_
    refine awp_skip ?_
    refine tq_n ?_
    refine awp_seq ?_
    refine awp_block ?_
    refine awp_seq ?_
    have hi : i < L.length := by omega
    have hxi := hLi _ (List.getElem_mem hi)
    refine w_reg (l := r4_12.toList) rfl r4_12_ok ?_
    refine a_op rfl (o_ix te68 tn75 rfl rfl rfl (ixm _ _ _ hi)) ?_
    refine a_op rfl ((by first | exact o_ldg tg75 tn75 rfl rfl | exact o_ldpg tg75 tn75 rfl rfl rfl rfl)) ?_
    refine a_op rfl (o_al (N := 2) tz75 rfl rfl rfl) ?_
    refine a_op0 rfl (o_st (N := 1) tn75 rfl rfl rfl rfl rfl) ?_
    refine a_nil ?_
    refine tq_n ?_
    refine awp_block ?_
    refine awp_seq ?_
    refine w_reg (l := r4_17.toList) rfl r4_17_ok ?_
    refine a_op rfl ((by first | exact o_fa tf75_1 rfl rfl | exact o_fap tf75_1 rfl rfl)) ?_
    refine a_op rfl ((by first | exact o_ld tg3 rfl rfl | exact o_ldp tg3 rfl rfl rfl rfl)) ?_
    refine a_if rfl (o_lt rfl rfl) (fun h7 => ?_) (fun h8 => ?_)
    · refine a_op rfl (o_as rfl) ?_
      refine a_nil ?_
      refine tq_n ?_
      refine w_true rfl ?_
      refine awp_seq ?_
      refine awp_seq ?_
      obtain ⟨hk1, hk2, hk3⟩ : ∃ h : (playS cs sw L i).rej.length < S.rej.length, S.rej[(playS cs sw L i).rej.length] = L[i].item ∧ atK (playS cs sw L (i + 1)) = (atK (playS cs sw L i)).set cs.length (((playS cs sw L i).rej.length : Int) + 1) := by rw [hS]; exact keep_rej' (sw := sw) (by omega) hpos hin hi (by omega)
      refine w_reg (l := r4_18.toList) rfl r4_18_ok ?_
      refine a_op rfl (o_mv rfl) ?_
      refine a_op rfl (o_mv rfl) ?_
      refine a_op rfl (o_len rfl rfl (by first | exact List.length_map .. | rfl) tl34) ?_
      refine a_op rfl (o_ixo (j := cs.length) te34 tn3 rfl rfl rfl rfl (by omega)) ?_
      refine a_op rfl (o_ldp (el := intAV (((playS cs sw L i).rej.length : Nat) : Int)) tg3 rfl rfl (mAtD (k := cs.length) (by rw [atK_len]; omega) (atK_rej (by omega))) rfl) ?_
      refine a_op rfl (o_as rfl) ?_
      refine a_nil ?_
      refine tq_n ?_
      refine awp_seq ?_
      refine awp_draw ⟨[[], [], [1], [1, 2], [0, 1, 2, 3], [0, 1, 2, 3, 4], [0, 1, 2, 3, 4, 5], [0, 1, 2, 3, 4, 5, 6], [0, 1, 2, 3, 4, 5], [0, 1, 2, 3, 4, 5, 6, 7, 8], [0, 1, 2, 3, 4, 5, 6, 7, 8, 9], [0, 1, 2, 3, 4, 5], [0, 1, 2, 3, 4, 5, 11], [0, 1, 2, 3, 4, 5, 6, 7, 8, 9, 10, 11, 12], [0, 1, 2, 3, 4, 5, 6, 7, 8, 9, 10, 11, 12, 13]], [[17], [10], [118], [119], [117, 120], [121], [10, 122], [122, 123], [17, 122], [122, 124, 125], [122, 126], [16, 122], [122, 128], [122, 127, 129], [122, 130]], [[], [], [0], [], [], [], [], [0], [], [], [], [], [2], [], []], [none, none, none, none, none, none, none, none, none, none, none, none, none, none, none]⟩ mo r4_19_ok (by decide +kernel) (l := r4_19.toList) rfl ?_
      refine d_op rfl rfl rfl (fun _ => o_mv rfl) ?_
      refine d_op rfl rfl rfl (fun _ => (by first | exact o_fa tf60_3 rfl rfl | exact o_fap tf60_3 rfl rfl)) ?_
      refine d_op rfl rfl rfl (fun _ => (by first | exact o_ld tg34 rfl rfl | exact o_ldp tg34 rfl rfl rfl rfl)) ?_
      refine d_op rfl rfl rfl (fun _ => o_len rfl rfl (by first | exact List.length_map .. | rfl) tl34) ?_
      refine d_if rfl rfl rfl (fun _ => o_ge rfl rfl) (fun h9 => ?_) (fun h10 => ?_)
      · omega
      refine d_op rfl rfl rfl (fun _ => o_mv rfl) ?_
      refine d_op rfl rfl rfl (fun _ => (by first | exact o_fa tf60_3 rfl rfl | exact o_fap tf60_3 rfl rfl)) ?_
      refine d_op rfl rfl rfl (fun _ => (by first | exact o_ld tg34 rfl rfl | exact o_ldp tg34 rfl rfl rfl rfl)) ?_
      refine d_op rfl rfl rfl (fun _ => o_mv rfl) ?_
      refine d_op rfl rfl rfl (fun _ => o_ix te34 tn3 rfl rfl rfl (ixm _ _ _ hk1)) ?_
      refine d_op rfl rfl rfl (fun _ => (by first | exact o_ld tg3 rfl rfl | exact o_ldp tg3 rfl rfl rfl rfl)) ?_
      refine d_op rfl rfl rfl (fun _ => (by first | exact o_fa tf75_0 rfl rfl | exact o_fap tf75_0 rfl rfl)) ?_
      refine d_op rfl rfl rfl (fun _ => (by first | exact o_ld tg3 rfl rfl | exact o_ldp tg3 rfl rfl rfl rfl)) ?_
      refine d_if rfl rfl rfl (fun _ => o_ne rfl rfl) (fun h11 => ?_) (fun h12 => ?_)
      · omega
      refine d_op rfl rfl rfl (fun _ => o_pkf rfl rfl) ?_
      refine d_nil ?_
      refine tq_n ?_
      refine w_false rfl ?_
      refine awp_skip ?_
      refine tq_n ?_
      refine w_reg (l := r4_21.toList) rfl r4_21_ok ?_
      refine a_op rfl (o_mv rfl) ?_
      refine a_op rfl (o_mv rfl) ?_
      refine a_op rfl (o_len rfl rfl (by first | exact List.length_map .. | rfl) tl34) ?_
      refine a_op rfl (o_ixo (j := cs.length) te34 tn3 rfl rfl rfl rfl (by omega)) ?_
      refine a_op rfl (o_ldp (el := intAV (((playS cs sw L i).rej.length : Nat) : Int)) tg3 rfl rfl (mAtD (k := cs.length) (by rw [atK_len]; omega) (atK_rej (by omega))) rfl) ?_
      refine a_op rfl (o_add rfl rfl (by simp only [klo, khi]; omega)) ?_
      refine a_op rfl (o_ixo (j := cs.length) te34 tn3 rfl rfl rfl rfl (by omega)) ?_
      refine a_opH0 rfl (o_stp (N := 0) (el := intAV (((playS cs sw L i).rej.length : Nat) : Int)) tn3 rfl rfl rfl rfl rfl (mAtD (k := cs.length) (by rw [atK_len]; omega) (atK_rej (by omega))) rfl (Nat.le_refl _)) (H' := [.var [.sl 1 false (S.rows.map rowAV), rowAV S.swept, rowAV S.over, rowAV S.rej, .sl 3 false (S.ev.map evAV)], .vec 1 0 ((atK (playS cs sw L (i + 1))).map intAV), .var (feedAV L[i]).cells]) (by rw [← atK_set hk3]; rfl) ?_
      refine a_nil ?_
      refine bq_n ?_
      refine bq_n ?_
      refine tq_n ?_
      refine w_view [(7, rowAV cs), (9, .raw (.int .i64 sw)), (10, .ptr 0 0), (14, .slo 1 0 0 (cs.length + 2)), (73, .sl 2 false (L.map feedAV)), (74, .raw (.int .i64 ((L.length : Nat) : Int))), (75, .raw (.int .i64 ((i : Nat) : Int)))] [.var [.sl 1 false (S.rows.map rowAV), rowAV S.swept, rowAV S.over, rowAV S.rej, .sl 3 false (S.ev.map evAV)], .vec 1 0 ((atK (playS cs sw L (i + 1))).map intAV)] 2 rfl (Nat.le_of_ble_eq_true rfl) (Nat.le_of_ble_eq_true rfl) ⟨⟨_, rfl, (by first | exact .mpK (Nat.le_of_ble_eq_true rfl) | exact .sloK (Nat.le_of_ble_eq_true rfl) | exact .ptrK (Nat.le_of_ble_eq_true rfl) | exact rs_pur (by simp) rfl)⟩, ⟨_, rfl, (by first | exact .mpK (Nat.le_of_ble_eq_true rfl) | exact .sloK (Nat.le_of_ble_eq_true rfl) | exact .ptrK (Nat.le_of_ble_eq_true rfl) | exact rs_pur (by simp) rfl)⟩, ⟨_, rfl, (by first | exact .mpK (Nat.le_of_ble_eq_true rfl) | exact .sloK (Nat.le_of_ble_eq_true rfl) | exact .ptrK (Nat.le_of_ble_eq_true rfl) | exact rs_pur (by simp) rfl)⟩, ⟨_, rfl, (by first | exact .mpK (Nat.le_of_ble_eq_true rfl) | exact .sloK (Nat.le_of_ble_eq_true rfl) | exact .ptrK (Nat.le_of_ble_eq_true rfl) | exact rs_pur (by simp) rfl)⟩, ⟨_, rfl, (by first | exact .mpK (Nat.le_of_ble_eq_true rfl) | exact .sloK (Nat.le_of_ble_eq_true rfl) | exact .ptrK (Nat.le_of_ble_eq_true rfl) | exact rs_pur (by simp) rfl)⟩, ⟨_, rfl, (by first | exact .mpK (Nat.le_of_ble_eq_true rfl) | exact .sloK (Nat.le_of_ble_eq_true rfl) | exact .ptrK (Nat.le_of_ble_eq_true rfl) | exact rs_pur (by simp) rfl)⟩, ⟨_, rfl, (by first | exact .mpK (Nat.le_of_ble_eq_true rfl) | exact .sloK (Nat.le_of_ble_eq_true rfl) | exact .ptrK (Nat.le_of_ble_eq_true rfl) | exact rs_pur (by simp) rfl)⟩, trivial⟩ ⟨ors_var ⟨rs_pur (by simp) rfl, rs_pur (by simp) rfl, rs_pur (by simp) rfl, rs_pur (by simp) rfl, rs_pur (by simp) rfl, trivial⟩, ors_vec (pu_int _), trivial⟩ ?_
      refine w_reg (l := r4_24.toList) rfl r4_24_ok ?_
      refine a_op rfl (o_add rfl rfl (by simp only [klo, khi]; omega)) ?_
      refine a_op rfl (o_mv rfl) ?_
      refine a_nil ?_
      refine tq_n ?_
      exact ⟨i + 1, ⟨by omega, by omega⟩, ⟨(by first | exact sub_int rfl (by omega) | rfl | exact sub_int rfl (by rw [sum_take_succ (by omega)]) | exact sub_int rfl (by rw [sumL_succ (by omega)]; omega) | exact sub_int rfl (by simp [sumL])), (by first | exact sub_int rfl (by omega) | rfl | exact sub_int rfl (by rw [sum_take_succ (by omega)]) | exact sub_int rfl (by rw [sumL_succ (by omega)]; omega) | exact sub_int rfl (by simp [sumL])), (by first | exact sub_int rfl (by omega) | rfl | exact sub_int rfl (by rw [sum_take_succ (by omega)]) | exact sub_int rfl (by rw [sumL_succ (by omega)]; omega) | exact sub_int rfl (by simp [sumL])), (by first | exact sub_int rfl (by omega) | rfl | exact sub_int rfl (by rw [sum_take_succ (by omega)]) | exact sub_int rfl (by rw [sumL_succ (by omega)]; omega) | exact sub_int rfl (by simp [sumL])), (by first | exact sub_int rfl (by omega) | rfl | exact sub_int rfl (by rw [sum_take_succ (by omega)]) | exact sub_int rfl (by rw [sumL_succ (by omega)]; omega) | exact sub_int rfl (by simp [sumL])), (by first | exact sub_int rfl (by omega) | rfl | exact sub_int rfl (by rw [sum_take_succ (by omega)]) | exact sub_int rfl (by rw [sumL_succ (by omega)]; omega) | exact sub_int rfl (by simp [sumL])), (by first | exact sub_int rfl (by omega) | rfl | exact sub_int rfl (by rw [sum_take_succ (by omega)]) | exact sub_int rfl (by rw [sumL_succ (by omega)]; omega) | exact sub_int rfl (by simp [sumL])), trivial⟩, rfl⟩
    refine a_op rfl (o_as rfl) ?_
    refine a_nil ?_
    refine tq_n ?_
    refine w_false rfl ?_
    refine awp_seq ?_
    obtain ⟨k, hk⟩ : ∃ k : Nat, L[i].stk = k := ⟨L[i].stk.toNat, by omega⟩
    have hkc : k < cs.length := by omega
    have hkr : k < S.rows.length := by omega
    have hq0 := hlist k hkr
    obtain ⟨n, hn⟩ : ∃ n, n = ((playS cs sw L i).rows.getD k []).length := ⟨_, rfl⟩
    refine awp_draw ⟨[[], [], [1], [0, 1, 2], [0, 1, 2, 3], [], [5], [], [7], [5, 6, 7, 8], [5, 6, 7, 8, 9], [5, 6, 7, 8, 9, 10], [0, 1, 2, 3, 4, 5, 6, 7, 8, 9, 10, 11], [0, 1, 2, 3, 4, 5, 6, 7, 8, 9, 10, 11, 12], [0, 1, 2, 3, 4, 5, 6, 7, 8, 9, 10, 11, 12, 13], [0, 1, 2, 3, 4, 5, 6, 7, 8, 9, 10, 11, 12, 13, 14], [0, 1, 2, 3, 4, 5, 6, 7, 8, 9, 10, 11, 12, 13], [0, 1, 2, 3, 4, 5, 6, 7, 8, 9, 10, 11, 12, 13, 16], [0, 1, 2, 3, 4, 5, 6, 7, 8, 9, 10, 11, 12, 13, 14, 15, 16, 17], [0, 1, 2, 3, 4, 5, 6, 7, 8, 9, 10, 11, 12, 13, 14, 15, 16, 17, 18], [0, 1, 2, 3, 4, 5, 6, 7, 8, 9, 10, 11, 12, 13], [0, 1, 2, 3, 4, 5, 6, 7, 8, 9, 10, 11, 12, 13], [0, 1, 2, 3, 4, 5, 6, 7, 8, 9, 10, 11, 12, 13, 21], [0, 1, 2, 3, 4, 5, 6, 7, 8, 9, 10, 11, 12, 13, 20, 21, 22], [0, 1, 2, 3, 4, 5, 6, 7, 8, 9, 10, 11, 12, 13, 20, 21, 22, 23], [0, 1, 2, 3, 4, 5, 6, 7, 8, 9, 10, 11, 12, 13, 14, 15, 16, 17, 18, 19, 20, 21, 22, 23, 24], [0, 1, 2, 3, 4, 5, 6, 7, 8, 9, 10, 11, 12, 13, 14, 15, 16, 17, 18, 19, 20, 21, 22, 23, 24, 25], [0, 1, 2, 3, 4, 5, 6, 7, 8, 9, 10, 11, 12, 13], [0, 1, 2, 3, 4, 5, 6, 7, 8, 9, 10, 11, 12, 13, 27], [0, 1, 2, 3, 4, 5, 6, 7, 8, 9, 10, 11, 12, 13, 14, 15, 16, 17, 18, 19, 20, 21, 22, 23, 24, 25, 26, 27, 28], [0, 1, 2, 3, 4, 5, 6, 7, 8, 9, 10, 11, 12, 13, 14, 15, 16, 17, 18, 19, 20, 21, 22, 23, 24, 25, 26, 27, 28, 29], [0, 1, 2, 3, 4, 5, 6, 7, 8, 9, 10, 11, 12, 13, 14, 15, 16, 17, 18, 19, 20, 21, 22, 23, 24, 25, 26, 27, 28, 29, 30]], [[14], [16], [141], [140, 142], [143], [10], [145], [16], [147], [146, 148], [149], [150], [144, 151], [152], [10, 153], [153, 154], [16, 153], [153, 156], [153, 155, 157], [153, 158], [14, 153], [16, 153], [153, 161], [153, 160, 162], [153, 163], [153, 159, 164], [153, 165], [16, 153], [153, 167], [153, 166, 168], [153, 169], [170]], [[], [], [2], [1], [1], [], [0], [], [2], [], [], [], [], [], [], [0], [], [2], [], [], [], [], [2], [1], [1], [], [], [], [2], [], [], []], [none, none, none, none, none, none, none, none, none, none, none, none, none, none, none, none, none, none, none, none, none, none, none, none, none, none, none, none, none, none, none, none]⟩ mo r4_22_ok (by decide +kernel) (l := r4_22.toList) rfl ?_
    refine d_op rfl rfl rfl (fun _ => o_mv rfl) ?_
    refine d_op rfl rfl rfl (fun _ => (by first | exact o_fa tf75_1 rfl rfl | exact o_fap tf75_1 rfl rfl)) ?_
    refine d_op rfl rfl rfl (fun _ => (by first | exact o_ld tg3 rfl rfl | exact o_ldp tg3 rfl rfl rfl rfl)) ?_
    refine d_op rfl rfl rfl (fun _ => o_ixo (j := k) te34 tn3 rfl rfl rfl hk (by omega)) ?_
    refine d_op rfl rfl rfl (fun _ => o_ldp (el := intAV ((n : Nat) : Int)) tg3 rfl rfl (mAtD (k := k) (by rw [atK_len]; omega) ((atK_get (by omega)).trans (by rw [hn]))) rfl) ?_
    refine d_op rfl rfl rfl (fun _ => (by first | exact o_fa tf60_0 rfl rfl | exact o_fap tf60_0 rfl rfl)) ?_
    refine d_op rfl rfl rfl (fun _ => (by first | exact o_ld tg57 rfl rfl | exact o_ldp tg57 rfl rfl rfl rfl)) ?_
    refine d_op rfl rfl rfl (fun _ => (by first | exact o_fa tf75_1 rfl rfl | exact o_fap tf75_1 rfl rfl)) ?_
    refine d_op rfl rfl rfl (fun _ => (by first | exact o_ld tg3 rfl rfl | exact o_ldp tg3 rfl rfl rfl rfl)) ?_
    refine d_op rfl rfl rfl (fun _ => o_ix te57 tn34 rfl rfl hk (ixm _ _ _ hkr)) ?_
    refine d_op rfl rfl rfl (fun _ => (by first | exact o_ld tg34 rfl rfl | exact o_ldp tg34 rfl rfl rfl rfl)) ?_
    refine d_op rfl rfl rfl (fun _ => o_len rfl rfl (by first | exact List.length_map .. | rfl) tl34) ?_
    refine d_if rfl rfl rfl (fun _ => o_lt rfl rfl) (fun h13 => ?_) (fun h14 => ?_)
    · have hnl : n < S.rows[k].length := by omega
      refine d_op rfl rfl rfl (fun _ => o_mv rfl) ?_
      refine d_op rfl rfl rfl (fun _ => (by first | exact o_fa tf60_0 rfl rfl | exact o_fap tf60_0 rfl rfl)) ?_
      refine d_op rfl rfl rfl (fun _ => (by first | exact o_ld tg57 rfl rfl | exact o_ldp tg57 rfl rfl rfl rfl)) ?_
      refine d_op rfl rfl rfl (fun _ => (by first | exact o_fa tf75_1 rfl rfl | exact o_fap tf75_1 rfl rfl)) ?_
      refine d_op rfl rfl rfl (fun _ => (by first | exact o_ld tg3 rfl rfl | exact o_ldp tg3 rfl rfl rfl rfl)) ?_
      refine d_op rfl rfl rfl (fun _ => o_ix te57 tn34 rfl rfl hk (ixm _ _ _ hkr)) ?_
      refine d_op rfl rfl rfl (fun _ => (by first | exact o_ld tg34 rfl rfl | exact o_ldp tg34 rfl rfl rfl rfl)) ?_
      refine d_op rfl rfl rfl (fun _ => o_mv rfl) ?_
      refine d_op rfl rfl rfl (fun _ => (by first | exact o_fa tf75_1 rfl rfl | exact o_fap tf75_1 rfl rfl)) ?_
      refine d_op rfl rfl rfl (fun _ => (by first | exact o_ld tg3 rfl rfl | exact o_ldp tg3 rfl rfl rfl rfl)) ?_
      refine d_op rfl rfl rfl (fun _ => o_ixo (j := k) te34 tn3 rfl rfl rfl hk (by omega)) ?_
      refine d_op rfl rfl rfl (fun _ => o_ldp (el := intAV ((n : Nat) : Int)) tg3 rfl rfl (mAtD (k := k) (by rw [atK_len]; omega) ((atK_get (by omega)).trans (by rw [hn]))) rfl) ?_
      refine d_op rfl rfl rfl (fun _ => o_ix te34 tn3 rfl rfl rfl (ixm _ _ _ hnl)) ?_
      refine d_op rfl rfl rfl (fun _ => (by first | exact o_ld tg3 rfl rfl | exact o_ldp tg3 rfl rfl rfl rfl)) ?_
      refine d_op rfl rfl rfl (fun _ => (by first | exact o_fa tf75_0 rfl rfl | exact o_fap tf75_0 rfl rfl)) ?_
      refine d_op rfl rfl rfl (fun _ => (by first | exact o_ld tg3 rfl rfl | exact o_ldp tg3 rfl rfl rfl rfl)) ?_
      refine d_if rfl rfl rfl (fun _ => o_eq rfl rfl) (fun h15 => ?_) (fun h16 => ?_)
      · refine d_op rfl rfl rfl (fun _ => o_pkt rfl rfl) ?_
        refine d_op rfl rfl rfl (fun _ => o_as rfl) ?_
        refine d_nil ?_
        refine tq_n ?_
        refine w_true rfl ?_
        have hk3 : atK (playS cs sw L (i + 1)) = (atK (playS cs sw L i)).set k ((n : Int) + 1) := by
          subst hS
          exact keep_yes (by omega) hpos hin hLd hi hk hkr hn (by omega) (by assumption)
        refine w_reg (l := r4_23.toList) rfl r4_23_ok ?_
        refine a_op rfl (o_mv rfl) ?_
        refine a_op rfl ((by first | exact o_fa tf75_1 rfl rfl | exact o_fap tf75_1 rfl rfl)) ?_
        refine a_op rfl ((by first | exact o_ld tg3 rfl rfl | exact o_ldp tg3 rfl rfl rfl rfl)) ?_
        refine a_op rfl (o_ixo (j := k) te34 tn3 rfl rfl rfl hk (by omega)) ?_
        refine a_op rfl (o_ldp (el := intAV ((n : Nat) : Int)) tg3 rfl rfl (mAtD (k := k) (by rw [atK_len]; omega) ((atK_get (by omega)).trans (by rw [hn]))) rfl) ?_
        refine a_op rfl (o_add rfl rfl (by simp only [klo, khi]; omega)) ?_
        refine a_op rfl (o_ixo (j := k) te34 tn3 rfl rfl rfl hk (by omega)) ?_
        refine a_opH0 rfl (o_stp (N := 0) (el := intAV ((n : Nat) : Int)) tn3 rfl rfl rfl rfl rfl (mAtD (k := k) (by rw [atK_len]; omega) ((atK_get (by omega)).trans (by rw [hn]))) rfl (Nat.le_refl _)) (H' := [.var [.sl 1 false (S.rows.map rowAV), rowAV S.swept, rowAV S.over, rowAV S.rej, .sl 3 false (S.ev.map evAV)], .vec 1 0 ((atK (playS cs sw L (i + 1))).map intAV), .var (feedAV L[i]).cells]) (by rw [← atK_set hk3]; rfl) ?_
        refine a_nil ?_
        refine bq_n ?_
        refine bq_n ?_
        refine tq_n ?_
        refine w_view [(7, rowAV cs), (9, .raw (.int .i64 sw)), (10, .ptr 0 0), (14, .slo 1 0 0 (cs.length + 2)), (73, .sl 2 false (L.map feedAV)), (74, .raw (.int .i64 ((L.length : Nat) : Int))), (75, .raw (.int .i64 ((i : Nat) : Int)))] [.var [.sl 1 false (S.rows.map rowAV), rowAV S.swept, rowAV S.over, rowAV S.rej, .sl 3 false (S.ev.map evAV)], .vec 1 0 ((atK (playS cs sw L (i + 1))).map intAV)] 2 rfl (Nat.le_of_ble_eq_true rfl) (Nat.le_of_ble_eq_true rfl) ⟨⟨_, rfl, (by first | exact .mpK (Nat.le_of_ble_eq_true rfl) | exact .sloK (Nat.le_of_ble_eq_true rfl) | exact .ptrK (Nat.le_of_ble_eq_true rfl) | exact rs_pur (by simp) rfl)⟩, ⟨_, rfl, (by first | exact .mpK (Nat.le_of_ble_eq_true rfl) | exact .sloK (Nat.le_of_ble_eq_true rfl) | exact .ptrK (Nat.le_of_ble_eq_true rfl) | exact rs_pur (by simp) rfl)⟩, ⟨_, rfl, (by first | exact .mpK (Nat.le_of_ble_eq_true rfl) | exact .sloK (Nat.le_of_ble_eq_true rfl) | exact .ptrK (Nat.le_of_ble_eq_true rfl) | exact rs_pur (by simp) rfl)⟩, ⟨_, rfl, (by first | exact .mpK (Nat.le_of_ble_eq_true rfl) | exact .sloK (Nat.le_of_ble_eq_true rfl) | exact .ptrK (Nat.le_of_ble_eq_true rfl) | exact rs_pur (by simp) rfl)⟩, ⟨_, rfl, (by first | exact .mpK (Nat.le_of_ble_eq_true rfl) | exact .sloK (Nat.le_of_ble_eq_true rfl) | exact .ptrK (Nat.le_of_ble_eq_true rfl) | exact rs_pur (by simp) rfl)⟩, ⟨_, rfl, (by first | exact .mpK (Nat.le_of_ble_eq_true rfl) | exact .sloK (Nat.le_of_ble_eq_true rfl) | exact .ptrK (Nat.le_of_ble_eq_true rfl) | exact rs_pur (by simp) rfl)⟩, ⟨_, rfl, (by first | exact .mpK (Nat.le_of_ble_eq_true rfl) | exact .sloK (Nat.le_of_ble_eq_true rfl) | exact .ptrK (Nat.le_of_ble_eq_true rfl) | exact rs_pur (by simp) rfl)⟩, trivial⟩ ⟨ors_var ⟨rs_pur (by simp) rfl, rs_pur (by simp) rfl, rs_pur (by simp) rfl, rs_pur (by simp) rfl, rs_pur (by simp) rfl, trivial⟩, ors_vec (pu_int _), trivial⟩ ?_
        refine w_reg (l := r4_24.toList) rfl r4_24_ok ?_
        refine a_op rfl (o_add rfl rfl (by simp only [klo, khi]; omega)) ?_
        refine a_op rfl (o_mv rfl) ?_
        refine a_nil ?_
        refine tq_n ?_
        exact ⟨i + 1, ⟨by omega, by omega⟩, ⟨(by first | exact sub_int rfl (by omega) | rfl | exact sub_int rfl (by rw [sum_take_succ (by omega)]) | exact sub_int rfl (by rw [sumL_succ (by omega)]; omega) | exact sub_int rfl (by simp [sumL])), (by first | exact sub_int rfl (by omega) | rfl | exact sub_int rfl (by rw [sum_take_succ (by omega)]) | exact sub_int rfl (by rw [sumL_succ (by omega)]; omega) | exact sub_int rfl (by simp [sumL])), (by first | exact sub_int rfl (by omega) | rfl | exact sub_int rfl (by rw [sum_take_succ (by omega)]) | exact sub_int rfl (by rw [sumL_succ (by omega)]; omega) | exact sub_int rfl (by simp [sumL])), (by first | exact sub_int rfl (by omega) | rfl | exact sub_int rfl (by rw [sum_take_succ (by omega)]) | exact sub_int rfl (by rw [sumL_succ (by omega)]; omega) | exact sub_int rfl (by simp [sumL])), (by first | exact sub_int rfl (by omega) | rfl | exact sub_int rfl (by rw [sum_take_succ (by omega)]) | exact sub_int rfl (by rw [sumL_succ (by omega)]; omega) | exact sub_int rfl (by simp [sumL])), (by first | exact sub_int rfl (by omega) | rfl | exact sub_int rfl (by rw [sum_take_succ (by omega)]) | exact sub_int rfl (by rw [sumL_succ (by omega)]; omega) | exact sub_int rfl (by simp [sumL])), (by first | exact sub_int rfl (by omega) | rfl | exact sub_int rfl (by rw [sum_take_succ (by omega)]) | exact sub_int rfl (by rw [sumL_succ (by omega)]; omega) | exact sub_int rfl (by simp [sumL])), trivial⟩, rfl⟩
      refine d_op rfl rfl rfl (fun _ => o_pkt rfl rfl) ?_
      refine d_op rfl rfl rfl (fun _ => o_as rfl) ?_
      refine d_nil ?_
      refine tq_n ?_
      refine w_false rfl ?_
      refine awp_seq ?_
      refine awp_seq ?_
      obtain ⟨hk1, hk2, hk3⟩ : ∃ h : (playS cs sw L i).over.length < S.over.length, S.over[(playS cs sw L i).over.length] = L[i].item ∧ atK (playS cs sw L (i + 1)) = (atK (playS cs sw L i)).set (cs.length + 1) (((playS cs sw L i).over.length : Int) + 1) := by
        subst hS
        exact keep_no (by omega) hpos hin hLd hi hk hkr hn (fun h => by first | assumption | omega)
      refine w_reg (l := r4_13.toList) rfl r4_13_ok ?_
      refine a_op rfl (o_mv rfl) ?_
      refine a_op rfl (o_mv rfl) ?_
      refine a_op rfl (o_len rfl rfl (by first | exact List.length_map .. | rfl) tl34) ?_
      refine a_op rfl (o_add rfl rfl (by simp only [klo, khi]; omega)) ?_
      refine a_op rfl (o_ixo (j := cs.length + 1) te34 tn3 rfl rfl rfl rfl (by omega)) ?_
      refine a_op rfl (o_ldp (el := intAV (((playS cs sw L i).over.length : Nat) : Int)) tg3 rfl rfl (mAtD (k := cs.length + 1) (by rw [atK_len]; omega) (atK_over (by omega))) rfl) ?_
      refine a_op rfl (o_as rfl) ?_
      refine a_nil ?_
      refine tq_n ?_
      refine awp_seq ?_
      refine awp_draw ⟨[[], [], [1], [1, 2], [0, 1, 2, 3], [0, 1, 2, 3, 4], [0, 1, 2, 3, 4, 5], [0, 1, 2, 3, 4, 5, 6], [0, 1, 2, 3, 4, 5], [0, 1, 2, 3, 4, 5, 6, 7, 8], [0, 1, 2, 3, 4, 5, 6, 7, 8, 9], [0, 1, 2, 3, 4, 5], [0, 1, 2, 3, 4, 5, 11], [0, 1, 2, 3, 4, 5, 6, 7, 8, 9, 10, 11, 12], [0, 1, 2, 3, 4, 5, 6, 7, 8, 9, 10, 11, 12, 13]], [[18], [10], [86], [87], [85, 88], [89], [10, 90], [90, 91], [18, 90], [90, 92, 93], [90, 94], [16, 90], [90, 96], [90, 95, 97], [90, 98]], [[], [], [0], [], [], [], [], [0], [], [], [], [], [2], [], []], [none, none, none, none, none, none, none, none, none, none, none, none, none, none, none]⟩ mo r4_14_ok (by decide +kernel) (l := r4_14.toList) rfl ?_
      refine d_op rfl rfl rfl (fun _ => o_mv rfl) ?_
      refine d_op rfl rfl rfl (fun _ => (by first | exact o_fa tf60_2 rfl rfl | exact o_fap tf60_2 rfl rfl)) ?_
      refine d_op rfl rfl rfl (fun _ => (by first | exact o_ld tg34 rfl rfl | exact o_ldp tg34 rfl rfl rfl rfl)) ?_
      refine d_op rfl rfl rfl (fun _ => o_len rfl rfl (by first | exact List.length_map .. | rfl) tl34) ?_
      refine d_if rfl rfl rfl (fun _ => o_ge rfl rfl) (fun h17 => ?_) (fun h18 => ?_)
      · omega
      refine d_op rfl rfl rfl (fun _ => o_mv rfl) ?_
      refine d_op rfl rfl rfl (fun _ => (by first | exact o_fa tf60_2 rfl rfl | exact o_fap tf60_2 rfl rfl)) ?_
      refine d_op rfl rfl rfl (fun _ => (by first | exact o_ld tg34 rfl rfl | exact o_ldp tg34 rfl rfl rfl rfl)) ?_
      refine d_op rfl rfl rfl (fun _ => o_mv rfl) ?_
      refine d_op rfl rfl rfl (fun _ => o_ix te34 tn3 rfl rfl rfl (ixm _ _ _ hk1)) ?_
      refine d_op rfl rfl rfl (fun _ => (by first | exact o_ld tg3 rfl rfl | exact o_ldp tg3 rfl rfl rfl rfl)) ?_
      refine d_op rfl rfl rfl (fun _ => (by first | exact o_fa tf75_0 rfl rfl | exact o_fap tf75_0 rfl rfl)) ?_
      refine d_op rfl rfl rfl (fun _ => (by first | exact o_ld tg3 rfl rfl | exact o_ldp tg3 rfl rfl rfl rfl)) ?_
      refine d_if rfl rfl rfl (fun _ => o_ne rfl rfl) (fun h19 => ?_) (fun h20 => ?_)
      · omega
      refine d_op rfl rfl rfl (fun _ => o_pkf rfl rfl) ?_
      refine d_nil ?_
      refine tq_n ?_
      refine w_false rfl ?_
      refine awp_skip ?_
      refine tq_n ?_
      refine w_reg (l := r4_16.toList) rfl r4_16_ok ?_
      refine a_op rfl (o_mv rfl) ?_
      refine a_op rfl (o_mv rfl) ?_
      refine a_op rfl (o_len rfl rfl (by first | exact List.length_map .. | rfl) tl34) ?_
      refine a_op rfl (o_add rfl rfl (by simp only [klo, khi]; omega)) ?_
      refine a_op rfl (o_ixo (j := cs.length + 1) te34 tn3 rfl rfl rfl rfl (by omega)) ?_
      refine a_op rfl (o_ldp (el := intAV (((playS cs sw L i).over.length : Nat) : Int)) tg3 rfl rfl (mAtD (k := cs.length + 1) (by rw [atK_len]; omega) (atK_over (by omega))) rfl) ?_
      refine a_op rfl (o_add rfl rfl (by simp only [klo, khi]; omega)) ?_
      refine a_op rfl (o_ixo (j := cs.length + 1) te34 tn3 rfl rfl rfl rfl (by omega)) ?_
      refine a_opH0 rfl (o_stp (N := 0) (el := intAV (((playS cs sw L i).over.length : Nat) : Int)) tn3 rfl rfl rfl rfl rfl (mAtD (k := cs.length + 1) (by rw [atK_len]; omega) (atK_over (by omega))) rfl (Nat.le_refl _)) (H' := [.var [.sl 1 false (S.rows.map rowAV), rowAV S.swept, rowAV S.over, rowAV S.rej, .sl 3 false (S.ev.map evAV)], .vec 1 0 ((atK (playS cs sw L (i + 1))).map intAV), .var (feedAV L[i]).cells]) (by rw [← atK_set hk3]; rfl) ?_
      refine a_nil ?_
      refine bq_n ?_
      refine bq_n ?_
      refine tq_n ?_
      refine w_view [(7, rowAV cs), (9, .raw (.int .i64 sw)), (10, .ptr 0 0), (14, .slo 1 0 0 (cs.length + 2)), (73, .sl 2 false (L.map feedAV)), (74, .raw (.int .i64 ((L.length : Nat) : Int))), (75, .raw (.int .i64 ((i : Nat) : Int)))] [.var [.sl 1 false (S.rows.map rowAV), rowAV S.swept, rowAV S.over, rowAV S.rej, .sl 3 false (S.ev.map evAV)], .vec 1 0 ((atK (playS cs sw L (i + 1))).map intAV)] 2 rfl (Nat.le_of_ble_eq_true rfl) (Nat.le_of_ble_eq_true rfl) ⟨⟨_, rfl, (by first | exact .mpK (Nat.le_of_ble_eq_true rfl) | exact .sloK (Nat.le_of_ble_eq_true rfl) | exact .ptrK (Nat.le_of_ble_eq_true rfl) | exact rs_pur (by simp) rfl)⟩, ⟨_, rfl, (by first | exact .mpK (Nat.le_of_ble_eq_true rfl) | exact .sloK (Nat.le_of_ble_eq_true rfl) | exact .ptrK (Nat.le_of_ble_eq_true rfl) | exact rs_pur (by simp) rfl)⟩, ⟨_, rfl, (by first | exact .mpK (Nat.le_of_ble_eq_true rfl) | exact .sloK (Nat.le_of_ble_eq_true rfl) | exact .ptrK (Nat.le_of_ble_eq_true rfl) | exact rs_pur (by simp) rfl)⟩, ⟨_, rfl, (by first | exact .mpK (Nat.le_of_ble_eq_true rfl) | exact .sloK (Nat.le_of_ble_eq_true rfl) | exact .ptrK (Nat.le_of_ble_eq_true rfl) | exact rs_pur (by simp) rfl)⟩, ⟨_, rfl, (by first | exact .mpK (Nat.le_of_ble_eq_true rfl) | exact .sloK (Nat.le_of_ble_eq_true rfl) | exact .ptrK (Nat.le_of_ble_eq_true rfl) | exact rs_pur (by simp) rfl)⟩, ⟨_, rfl, (by first | exact .mpK (Nat.le_of_ble_eq_true rfl) | exact .sloK (Nat.le_of_ble_eq_true rfl) | exact .ptrK (Nat.le_of_ble_eq_true rfl) | exact rs_pur (by simp) rfl)⟩, ⟨_, rfl, (by first | exact .mpK (Nat.le_of_ble_eq_true rfl) | exact .sloK (Nat.le_of_ble_eq_true rfl) | exact .ptrK (Nat.le_of_ble_eq_true rfl) | exact rs_pur (by simp) rfl)⟩, trivial⟩ ⟨ors_var ⟨rs_pur (by simp) rfl, rs_pur (by simp) rfl, rs_pur (by simp) rfl, rs_pur (by simp) rfl, rs_pur (by simp) rfl, trivial⟩, ors_vec (pu_int _), trivial⟩ ?_
      refine w_reg (l := r4_24.toList) rfl r4_24_ok ?_
      refine a_op rfl (o_add rfl rfl (by simp only [klo, khi]; omega)) ?_
      refine a_op rfl (o_mv rfl) ?_
      refine a_nil ?_
      refine tq_n ?_
      exact ⟨i + 1, ⟨by omega, by omega⟩, ⟨(by first | exact sub_int rfl (by omega) | rfl | exact sub_int rfl (by rw [sum_take_succ (by omega)]) | exact sub_int rfl (by rw [sumL_succ (by omega)]; omega) | exact sub_int rfl (by simp [sumL])), (by first | exact sub_int rfl (by omega) | rfl | exact sub_int rfl (by rw [sum_take_succ (by omega)]) | exact sub_int rfl (by rw [sumL_succ (by omega)]; omega) | exact sub_int rfl (by simp [sumL])), (by first | exact sub_int rfl (by omega) | rfl | exact sub_int rfl (by rw [sum_take_succ (by omega)]) | exact sub_int rfl (by rw [sumL_succ (by omega)]; omega) | exact sub_int rfl (by simp [sumL])), (by first | exact sub_int rfl (by omega) | rfl | exact sub_int rfl (by rw [sum_take_succ (by omega)]) | exact sub_int rfl (by rw [sumL_succ (by omega)]; omega) | exact sub_int rfl (by simp [sumL])), (by first | exact sub_int rfl (by omega) | rfl | exact sub_int rfl (by rw [sum_take_succ (by omega)]) | exact sub_int rfl (by rw [sumL_succ (by omega)]; omega) | exact sub_int rfl (by simp [sumL])), (by first | exact sub_int rfl (by omega) | rfl | exact sub_int rfl (by rw [sum_take_succ (by omega)]) | exact sub_int rfl (by rw [sumL_succ (by omega)]; omega) | exact sub_int rfl (by simp [sumL])), (by first | exact sub_int rfl (by omega) | rfl | exact sub_int rfl (by rw [sum_take_succ (by omega)]) | exact sub_int rfl (by rw [sumL_succ (by omega)]; omega) | exact sub_int rfl (by simp [sumL])), trivial⟩, rfl⟩
    refine d_op rfl rfl rfl (fun _ => o_mv rfl) ?_
    refine d_off rfl rfl ?_
    refine d_off rfl rfl ?_
    refine d_off rfl rfl ?_
    refine d_off rfl rfl ?_
    refine d_off rfl rfl ?_
    refine d_off rfl rfl ?_
    refine d_off rfl rfl ?_
    refine d_off rfl rfl ?_
    refine d_off rfl rfl ?_
    refine d_off rfl rfl ?_
    refine d_off rfl rfl ?_
    refine d_off rfl rfl ?_
    refine d_off rfl rfl ?_
    refine d_off rfl rfl ?_
    refine d_off rfl rfl ?_
    refine d_off rfl rfl ?_
    refine d_op rfl rfl rfl (fun _ => o_pkf rfl rfl) ?_
    refine d_op rfl rfl rfl (fun _ => o_as rfl) ?_
    refine d_nil ?_
    refine tq_n ?_
    refine w_false rfl ?_
    refine awp_seq ?_
    refine awp_seq ?_
    obtain ⟨hk1, hk2, hk3⟩ : ∃ h : (playS cs sw L i).over.length < S.over.length, S.over[(playS cs sw L i).over.length] = L[i].item ∧ atK (playS cs sw L (i + 1)) = (atK (playS cs sw L i)).set (cs.length + 1) (((playS cs sw L i).over.length : Int) + 1) := by
      subst hS
      exact keep_no (by omega) hpos hin hLd hi hk hkr hn (fun h => by first | assumption | omega)
    refine w_reg (l := r4_13.toList) rfl r4_13_ok ?_
    refine a_op rfl (o_mv rfl) ?_
    refine a_op rfl (o_mv rfl) ?_
    refine a_op rfl (o_len rfl rfl (by first | exact List.length_map .. | rfl) tl34) ?_
    refine a_op rfl (o_add rfl rfl (by simp only [klo, khi]; omega)) ?_
    refine a_op rfl (o_ixo (j := cs.length + 1) te34 tn3 rfl rfl rfl rfl (by omega)) ?_
    refine a_op rfl (o_ldp (el := intAV (((playS cs sw L i).over.length : Nat) : Int)) tg3 rfl rfl (mAtD (k := cs.length + 1) (by rw [atK_len]; omega) (atK_over (by omega))) rfl) ?_
    refine a_op rfl (o_as rfl) ?_
    refine a_nil ?_
    refine tq_n ?_
    refine awp_seq ?_
    refine awp_draw ⟨[[], [], [1], [1, 2], [0, 1, 2, 3], [0, 1, 2, 3, 4], [0, 1, 2, 3, 4, 5], [0, 1, 2, 3, 4, 5, 6], [0, 1, 2, 3, 4, 5], [0, 1, 2, 3, 4, 5, 6, 7, 8], [0, 1, 2, 3, 4, 5, 6, 7, 8, 9], [0, 1, 2, 3, 4, 5], [0, 1, 2, 3, 4, 5, 11], [0, 1, 2, 3, 4, 5, 6, 7, 8, 9, 10, 11, 12], [0, 1, 2, 3, 4, 5, 6, 7, 8, 9, 10, 11, 12, 13]], [[18], [10], [86], [87], [85, 88], [89], [10, 90], [90, 91], [18, 90], [90, 92, 93], [90, 94], [16, 90], [90, 96], [90, 95, 97], [90, 98]], [[], [], [0], [], [], [], [], [0], [], [], [], [], [2], [], []], [none, none, none, none, none, none, none, none, none, none, none, none, none, none, none]⟩ mo r4_14_ok (by decide +kernel) (l := r4_14.toList) rfl ?_
    refine d_op rfl rfl rfl (fun _ => o_mv rfl) ?_
    refine d_op rfl rfl rfl (fun _ => (by first | exact o_fa tf60_2 rfl rfl | exact o_fap tf60_2 rfl rfl)) ?_
    refine d_op rfl rfl rfl (fun _ => (by first | exact o_ld tg34 rfl rfl | exact o_ldp tg34 rfl rfl rfl rfl)) ?_
    refine d_op rfl rfl rfl (fun _ => o_len rfl rfl (by first | exact List.length_map .. | rfl) tl34) ?_
    refine d_if rfl rfl rfl (fun _ => o_ge rfl rfl) (fun h21 => ?_) (fun h22 => ?_)
    · omega
    refine d_op rfl rfl rfl (fun _ => o_mv rfl) ?_
    refine d_op rfl rfl rfl (fun _ => (by first | exact o_fa tf60_2 rfl rfl | exact o_fap tf60_2 rfl rfl)) ?_
    refine d_op rfl rfl rfl (fun _ => (by first | exact o_ld tg34 rfl rfl | exact o_ldp tg34 rfl rfl rfl rfl)) ?_
    refine d_op rfl rfl rfl (fun _ => o_mv rfl) ?_
    refine d_op rfl rfl rfl (fun _ => o_ix te34 tn3 rfl rfl rfl (ixm _ _ _ hk1)) ?_
    refine d_op rfl rfl rfl (fun _ => (by first | exact o_ld tg3 rfl rfl | exact o_ldp tg3 rfl rfl rfl rfl)) ?_
    refine d_op rfl rfl rfl (fun _ => (by first | exact o_fa tf75_0 rfl rfl | exact o_fap tf75_0 rfl rfl)) ?_
    refine d_op rfl rfl rfl (fun _ => (by first | exact o_ld tg3 rfl rfl | exact o_ldp tg3 rfl rfl rfl rfl)) ?_
    refine d_if rfl rfl rfl (fun _ => o_ne rfl rfl) (fun h23 => ?_) (fun h24 => ?_)
    · omega
    refine d_op rfl rfl rfl (fun _ => o_pkf rfl rfl) ?_
    refine d_nil ?_
    refine tq_n ?_
    refine w_false rfl ?_
    refine awp_skip ?_
    refine tq_n ?_
    refine w_reg (l := r4_16.toList) rfl r4_16_ok ?_
    refine a_op rfl (o_mv rfl) ?_
    refine a_op rfl (o_mv rfl) ?_
    refine a_op rfl (o_len rfl rfl (by first | exact List.length_map .. | rfl) tl34) ?_
    refine a_op rfl (o_add rfl rfl (by simp only [klo, khi]; omega)) ?_
    refine a_op rfl (o_ixo (j := cs.length + 1) te34 tn3 rfl rfl rfl rfl (by omega)) ?_
    refine a_op rfl (o_ldp (el := intAV (((playS cs sw L i).over.length : Nat) : Int)) tg3 rfl rfl (mAtD (k := cs.length + 1) (by rw [atK_len]; omega) (atK_over (by omega))) rfl) ?_
    refine a_op rfl (o_add rfl rfl (by simp only [klo, khi]; omega)) ?_
    refine a_op rfl (o_ixo (j := cs.length + 1) te34 tn3 rfl rfl rfl rfl (by omega)) ?_
    refine a_opH0 rfl (o_stp (N := 0) (el := intAV (((playS cs sw L i).over.length : Nat) : Int)) tn3 rfl rfl rfl rfl rfl (mAtD (k := cs.length + 1) (by rw [atK_len]; omega) (atK_over (by omega))) rfl (Nat.le_refl _)) (H' := [.var [.sl 1 false (S.rows.map rowAV), rowAV S.swept, rowAV S.over, rowAV S.rej, .sl 3 false (S.ev.map evAV)], .vec 1 0 ((atK (playS cs sw L (i + 1))).map intAV), .var (feedAV L[i]).cells]) (by rw [← atK_set hk3]; rfl) ?_
    refine a_nil ?_
    refine bq_n ?_
    refine bq_n ?_
    refine tq_n ?_
    refine w_view [(7, rowAV cs), (9, .raw (.int .i64 sw)), (10, .ptr 0 0), (14, .slo 1 0 0 (cs.length + 2)), (73, .sl 2 false (L.map feedAV)), (74, .raw (.int .i64 ((L.length : Nat) : Int))), (75, .raw (.int .i64 ((i : Nat) : Int)))] [.var [.sl 1 false (S.rows.map rowAV), rowAV S.swept, rowAV S.over, rowAV S.rej, .sl 3 false (S.ev.map evAV)], .vec 1 0 ((atK (playS cs sw L (i + 1))).map intAV)] 2 rfl (Nat.le_of_ble_eq_true rfl) (Nat.le_of_ble_eq_true rfl) ⟨⟨_, rfl, (by first | exact .mpK (Nat.le_of_ble_eq_true rfl) | exact .sloK (Nat.le_of_ble_eq_true rfl) | exact .ptrK (Nat.le_of_ble_eq_true rfl) | exact rs_pur (by simp) rfl)⟩, ⟨_, rfl, (by first | exact .mpK (Nat.le_of_ble_eq_true rfl) | exact .sloK (Nat.le_of_ble_eq_true rfl) | exact .ptrK (Nat.le_of_ble_eq_true rfl) | exact rs_pur (by simp) rfl)⟩, ⟨_, rfl, (by first | exact .mpK (Nat.le_of_ble_eq_true rfl) | exact .sloK (Nat.le_of_ble_eq_true rfl) | exact .ptrK (Nat.le_of_ble_eq_true rfl) | exact rs_pur (by simp) rfl)⟩, ⟨_, rfl, (by first | exact .mpK (Nat.le_of_ble_eq_true rfl) | exact .sloK (Nat.le_of_ble_eq_true rfl) | exact .ptrK (Nat.le_of_ble_eq_true rfl) | exact rs_pur (by simp) rfl)⟩, ⟨_, rfl, (by first | exact .mpK (Nat.le_of_ble_eq_true rfl) | exact .sloK (Nat.le_of_ble_eq_true rfl) | exact .ptrK (Nat.le_of_ble_eq_true rfl) | exact rs_pur (by simp) rfl)⟩, ⟨_, rfl, (by first | exact .mpK (Nat.le_of_ble_eq_true rfl) | exact .sloK (Nat.le_of_ble_eq_true rfl) | exact .ptrK (Nat.le_of_ble_eq_true rfl) | exact rs_pur (by simp) rfl)⟩, ⟨_, rfl, (by first | exact .mpK (Nat.le_of_ble_eq_true rfl) | exact .sloK (Nat.le_of_ble_eq_true rfl) | exact .ptrK (Nat.le_of_ble_eq_true rfl) | exact rs_pur (by simp) rfl)⟩, trivial⟩ ⟨ors_var ⟨rs_pur (by simp) rfl, rs_pur (by simp) rfl, rs_pur (by simp) rfl, rs_pur (by simp) rfl, rs_pur (by simp) rfl, trivial⟩, ors_vec (pu_int _), trivial⟩ ?_
    refine w_reg (l := r4_24.toList) rfl r4_24_ok ?_
    refine a_op rfl (o_add rfl rfl (by simp only [klo, khi]; omega)) ?_
    refine a_op rfl (o_mv rfl) ?_
    refine a_nil ?_
    refine tq_n ?_
    exact ⟨i + 1, ⟨by omega, by omega⟩, ⟨(by first | exact sub_int rfl (by omega) | rfl | exact sub_int rfl (by rw [sum_take_succ (by omega)]) | exact sub_int rfl (by rw [sumL_succ (by omega)]; omega) | exact sub_int rfl (by simp [sumL])), (by first | exact sub_int rfl (by omega) | rfl | exact sub_int rfl (by rw [sum_take_succ (by omega)]) | exact sub_int rfl (by rw [sumL_succ (by omega)]; omega) | exact sub_int rfl (by simp [sumL])), (by first | exact sub_int rfl (by omega) | rfl | exact sub_int rfl (by rw [sum_take_succ (by omega)]) | exact sub_int rfl (by rw [sumL_succ (by omega)]; omega) | exact sub_int rfl (by simp [sumL])), (by first | exact sub_int rfl (by omega) | rfl | exact sub_int rfl (by rw [sum_take_succ (by omega)]) | exact sub_int rfl (by rw [sumL_succ (by omega)]; omega) | exact sub_int rfl (by simp [sumL])), (by first | exact sub_int rfl (by omega) | rfl | exact sub_int rfl (by rw [sum_take_succ (by omega)]) | exact sub_int rfl (by rw [sumL_succ (by omega)]; omega) | exact sub_int rfl (by simp [sumL])), (by first | exact sub_int rfl (by omega) | rfl | exact sub_int rfl (by rw [sum_take_succ (by omega)]) | exact sub_int rfl (by rw [sumL_succ (by omega)]; omega) | exact sub_int rfl (by simp [sumL])), (by first | exact sub_int rfl (by omega) | rfl | exact sub_int rfl (by rw [sum_take_succ (by omega)]) | exact sub_int rfl (by rw [sumL_succ (by omega)]; omega) | exact sub_int rfl (by simp [sumL])), trivial⟩, rfl⟩
  refine a_nil ?_
  refine tq_n ?_
  refine awp_seq ?_
  refine w_false rfl ?_
  refine awp_exit ?_
  refine tq_x ?_
  refine tq_x ?_
  refine bq_hit ?_
  refine tq_n ?_
  refine awp_seq ?_
  refine w_reg (l := r4_25.toList) rfl r4_25_ok ?_
  refine a_op rfl (o_as rfl) ?_
  refine a_op rfl (o_as rfl) ?_
  refine a_nil ?_
  refine tq_n ?_
  refine awp_seq ?_
  refine awp_seq ?_
  refine w_view [(7, rowAV cs), (9, .raw (.int .i64 sw)), (10, .ptr 0 0), (19, .raw (.int .i64 0)), (20, .raw (.int .i64 0))] [.var [.sl 1 false (S.rows.map rowAV), rowAV S.swept, rowAV S.over, rowAV S.rej, .sl 3 false (S.ev.map evAV)]] 1 rfl (Nat.le_of_ble_eq_true rfl) (Nat.le_of_ble_eq_true rfl) ⟨⟨_, rfl, (by first | exact .mpK (Nat.le_of_ble_eq_true rfl) | exact .sloK (Nat.le_of_ble_eq_true rfl) | exact .ptrK (Nat.le_of_ble_eq_true rfl) | exact rs_pur (by simp) rfl)⟩, ⟨_, rfl, (by first | exact .mpK (Nat.le_of_ble_eq_true rfl) | exact .sloK (Nat.le_of_ble_eq_true rfl) | exact .ptrK (Nat.le_of_ble_eq_true rfl) | exact rs_pur (by simp) rfl)⟩, ⟨_, rfl, (by first | exact .mpK (Nat.le_of_ble_eq_true rfl) | exact .sloK (Nat.le_of_ble_eq_true rfl) | exact .ptrK (Nat.le_of_ble_eq_true rfl) | exact rs_pur (by simp) rfl)⟩, ⟨_, rfl, (by first | exact .mpK (Nat.le_of_ble_eq_true rfl) | exact .sloK (Nat.le_of_ble_eq_true rfl) | exact .ptrK (Nat.le_of_ble_eq_true rfl) | exact rs_pur (by simp) rfl)⟩, ⟨_, rfl, (by first | exact .mpK (Nat.le_of_ble_eq_true rfl) | exact .sloK (Nat.le_of_ble_eq_true rfl) | exact .ptrK (Nat.le_of_ble_eq_true rfl) | exact rs_pur (by simp) rfl)⟩, trivial⟩ ⟨ors_var ⟨rs_pur (by simp) rfl, rs_pur (by simp) rfl, rs_pur (by simp) rfl, rs_pur (by simp) rfl, rs_pur (by simp) rfl, trivial⟩, trivial⟩ ?_
  refine w_reg (l := r4_26.toList) rfl r4_26_ok ?_
  refine a_op rfl (o_mv rfl) ?_
  refine a_op rfl (o_len rfl rfl (by first | exact List.length_map .. | rfl) tl34) ?_
  refine a_op rfl (o_mv rfl) ?_
  refine a_nil ?_
  refine tq_n ?_
  refine awp_block ?_
  refine w_loop (fun k : Nat => k ≤ cs.length) (fun k => [(7, rowAV cs), (9, .raw (.int .i64 sw)), (10, .ptr 0 0), (19, .raw (.int .i64 ((S.swept.take k).sum))), (20, .raw (.int .i64 ((sumL S.rows k : Nat) : Int))), (179, rowAV cs), (180, .raw (.int .i64 ((cs.length : Nat) : Int))), (181, .raw (.int .i64 ((k : Nat) : Int)))]) (fun _ => [.var [.sl 1 false (S.rows.map rowAV), rowAV S.swept, rowAV S.over, rowAV S.rej, .sl 3 false (S.ev.map evAV)]]) (fun k => cs.length - k) (0) (by simp) ⟨(by first | exact sub_int rfl (by omega) | rfl | exact sub_int rfl (by rw [sum_take_succ (by omega)]) | exact sub_int rfl (by rw [sumL_succ (by omega)]; omega) | exact sub_int rfl (by simp [sumL])), (by first | exact sub_int rfl (by omega) | rfl | exact sub_int rfl (by rw [sum_take_succ (by omega)]) | exact sub_int rfl (by rw [sumL_succ (by omega)]; omega) | exact sub_int rfl (by simp [sumL])), (by first | exact sub_int rfl (by omega) | rfl | exact sub_int rfl (by rw [sum_take_succ (by omega)]) | exact sub_int rfl (by rw [sumL_succ (by omega)]; omega) | exact sub_int rfl (by simp [sumL])), (by first | exact sub_int rfl (by omega) | rfl | exact sub_int rfl (by rw [sum_take_succ (by omega)]) | exact sub_int rfl (by rw [sumL_succ (by omega)]; omega) | exact sub_int rfl (by simp [sumL])), (by first | exact sub_int rfl (by omega) | rfl | exact sub_int rfl (by rw [sum_take_succ (by omega)]) | exact sub_int rfl (by rw [sumL_succ (by omega)]; omega) | exact sub_int rfl (by simp [sumL])), (by first | exact sub_int rfl (by omega) | rfl | exact sub_int rfl (by rw [sum_take_succ (by omega)]) | exact sub_int rfl (by rw [sumL_succ (by omega)]; omega) | exact sub_int rfl (by simp [sumL])), (by first | exact sub_int rfl (by omega) | rfl | exact sub_int rfl (by rw [sum_take_succ (by omega)]) | exact sub_int rfl (by rw [sumL_succ (by omega)]; omega) | exact sub_int rfl (by simp [sumL])), (by first | exact sub_int rfl (by omega) | rfl | exact sub_int rfl (by rw [sum_take_succ (by omega)]) | exact sub_int rfl (by rw [sumL_succ (by omega)]; omega) | exact sub_int rfl (by simp [sumL])), trivial⟩ rfl ?_
  intro k hp2
  have hsn : ∀ v ∈ S.swept, 0 ≤ v := fun v hv => by
    obtain ⟨j, hj, rfl⟩ := List.getElem_of_mem hv
    have := (hiv.sp j (by omega)).1
    rwa [getDi hj] at this
  have hst := sum_take_le hsn k
  have hsm := hiv.sum; have hs0 := hiv.s0
  have hsl := sumL_le S.rows k
  unfold b4_1
  refine awp_seq ?_
  refine w_reg (l := r4_27.toList) rfl r4_27_ok ?_
  refine a_if rfl (o_lt rfl rfl) (fun h25 => ?_) (fun h26 => ?_)
  · refine a_nil ?_
    refine tq_n ?_
    refine awp_seq ?_
    refine w_true rfl ?_
    refine awp_skip ?_
    refine tq_n ?_
    refine awp_seq ?_
    refine awp_block ?_
    refine awp_seq ?_
    have hkc : k < cs.length := by omega
    have hkr : k < S.rows.length := by omega
    have hks : k < S.swept.length := by omega
    have hq1 := hiv.cnt k hkc; have hq2 := hiv.lo k hkc; have hq3 := hiv.sp k hkc
    rw [getDg hkr, getDi hkc, getDi hks] at hq1
    rw [getDi hkc] at hq2
    rw [getDi hks] at hq3
    have hq4 := sum_take_le hsn (k + 1)
    rw [sum_take_succ hks] at hq4
    have hq5 := hlist k hkr
    have hq6 := hc16 _ (List.getElem_mem hkc)
    have hq7 := mulb hq6.1 hq6.2 (show 0 ≤ 1 + S.swept[k] by omega) (show 1 + S.swept[k] ≤ 300 by omega)
    have hq8 := mulb hq6.1 hq6.2 (show 0 ≤ S.swept[k] by omega) (show S.swept[k] ≤ 300 by omega)
    have hq9 : cs[k] * (1 + S.swept[k]) = cs[k] + cs[k] * S.swept[k] := by rw [Int.mul_add, Int.mul_one]
    refine w_reg (l := r4_28.toList) rfl r4_28_ok ?_
    refine a_op rfl (o_mv rfl) ?_
    refine a_op rfl (o_as rfl) ?_
    refine a_nil ?_
    refine tq_n ?_
    refine awp_seq ?_
    refine awp_seq ?_
    refine awp_draw ⟨[[], [0], [], [0, 1, 2], [0, 1, 2, 3], [0, 1, 2, 3, 4], [], [], [6, 7], [6, 7, 8], [], [10], [], [10, 11, 12], [10, 11, 12, 13], [10, 11, 12, 13, 14], [6, 7, 8, 9, 10, 11, 12, 13, 14, 15], [0, 1, 2, 3, 4, 5, 6, 7, 8, 9, 10, 11, 12, 13, 14, 15, 16], [0, 1, 2, 3, 4, 5, 6, 7, 8, 9, 10, 11, 12, 13, 14, 15, 16, 17], [0, 1, 2, 3, 4, 5, 6, 7, 8, 9, 10, 11, 12, 13, 14, 15, 16, 17, 18], [0, 1, 2, 3, 4, 5, 6, 7, 8, 9, 10, 11, 12, 13, 14, 15, 16, 17, 18, 19], [0, 1, 2, 3, 4, 5, 6, 7, 8, 9, 10, 11, 12, 13, 14, 15, 16, 17, 18], [0, 1, 2, 3, 4, 5, 6, 7, 8, 9, 10, 11, 12, 13, 14, 15, 16, 17, 18, 19, 20, 21], [0, 1, 2, 3, 4, 5, 6, 7, 8, 9, 10, 11, 12, 13, 14, 15, 16, 17, 18, 19, 20, 21, 22], [0, 1, 2, 3, 4, 5, 6, 7, 8, 9, 10, 11, 12, 13, 14, 15, 16, 17, 18, 19, 20, 21, 22, 23], [0, 1, 2, 3, 4, 5, 6, 7, 8, 9, 10, 11, 12, 13, 14, 15, 16, 17, 18, 19, 20, 21, 22, 23, 24], [0, 1, 2, 3, 4, 5, 6, 7, 8, 9, 10, 11, 12, 13, 14, 15, 16, 17, 18, 19, 20, 21, 22, 23, 24, 25], [0, 1, 2, 3, 4, 5, 6, 7, 8, 9, 10, 11, 12, 13, 14, 15, 16, 17, 18, 19, 20, 21, 22, 23, 24, 25, 26], [0, 1, 2, 3, 4, 5, 6, 7, 8, 9, 10, 11, 12, 13, 14, 15, 16, 17, 18, 19, 20, 21, 22, 23, 24, 25], [0, 1, 2, 3, 4, 5, 6, 7, 8, 9, 10, 11, 12, 13, 14, 15, 16, 17, 18, 19, 20, 21, 22, 23, 24, 25, 26, 27, 28], [0, 1, 2, 3, 4, 5, 6, 7, 8, 9, 10, 11, 12, 13, 14, 15, 16, 17, 18, 19, 20, 21, 22, 23, 24, 25, 26, 27, 28, 29], [0, 1, 2, 3, 4, 5, 6, 7, 8, 9, 10, 11, 12, 13, 14, 15, 16, 17, 18, 19, 20, 21, 22, 23, 24, 25, 26, 27, 28, 29, 30], [0, 1, 2, 3, 4, 5, 6, 7, 8, 9, 10, 11, 12, 13, 14, 15, 16, 17, 18, 19, 20, 21, 22, 23, 24, 25], [0, 1, 2, 3, 4, 5, 6, 7, 8, 9, 10, 11, 12, 13, 14, 15, 16, 17, 18, 19, 20, 21, 22, 23, 24, 25], [0, 1, 2, 3, 4, 5, 6, 7, 8, 9, 10, 11, 12, 13, 14, 15, 16, 17, 18, 19, 20, 21, 22, 23, 24, 25, 32, 33], [0, 1, 2, 3, 4, 5, 6, 7, 8, 9, 10, 11, 12, 13, 14, 15, 16, 17, 18, 19, 20, 21, 22, 23, 24, 25, 32, 33, 34], [0, 1, 2, 3, 4, 5, 6, 7, 8, 9, 10, 11, 12, 13, 14, 15, 16, 17, 18, 19, 20, 21, 22, 23, 24, 25], [0, 1, 2, 3, 4, 5, 6, 7, 8, 9, 10, 11, 12, 13, 14, 15, 16, 17, 18, 19, 20, 21, 22, 23, 24, 25, 36], [0, 1, 2, 3, 4, 5, 6, 7, 8, 9, 10, 11, 12, 13, 14, 15, 16, 17, 18, 19, 20, 21, 22, 23, 24, 25], [0, 1, 2, 3, 4, 5, 6, 7, 8, 9, 10, 11, 12, 13, 14, 15, 16, 17, 18, 19, 20, 21, 22, 23, 24, 25, 36, 37, 38], [0, 1, 2, 3, 4, 5, 6, 7, 8, 9, 10, 11, 12, 13, 14, 15, 16, 17, 18, 19, 20, 21, 22, 23, 24, 25, 36, 37, 38, 39], [0, 1, 2, 3, 4, 5, 6, 7, 8, 9, 10, 11, 12, 13, 14, 15, 16, 17, 18, 19, 20, 21, 22, 23, 24, 25, 32, 33, 34, 35, 36, 37, 38, 39, 40], [0, 1, 2, 3, 4, 5, 6, 7, 8, 9, 10, 11, 12, 13, 14, 15, 16, 17, 18, 19, 20, 21, 22, 23, 24, 25, 26, 27, 28, 29, 30, 31, 32, 33, 34, 35, 36, 37, 38, 39, 40, 41], [0, 1, 2, 3, 4, 5, 6, 7, 8, 9, 10, 11, 12, 13, 14, 15, 16, 17, 18, 19, 20, 21, 22, 23, 24, 25, 26, 27, 28, 29, 30, 31, 32, 33, 34, 35, 36, 37, 38, 39, 40, 41, 42], [0, 1, 2, 3, 4, 5, 6, 7, 8, 9, 10, 11, 12, 13, 14, 15, 16, 17, 18, 19, 20, 21, 22, 23, 24, 25, 26, 27, 28, 29, 30, 31, 32, 33, 34, 35, 36, 37, 38, 39, 40, 41, 42, 43]], [[10], [184], [21], [185, 186], [187], [188], [7], [21], [190, 191], [192], [10], [194], [21], [195, 196], [197], [198], [193, 199], [189, 200], [201], [10, 202], [202, 203], [21, 202], [202, 204, 205], [202, 206], [202, 207], [202, 208], [10, 209], [209, 210], [21, 209], [209, 211, 212], [209, 213], [209, 214], [7, 209], [21, 209], [209, 216, 217], [209, 218], [10, 209], [209, 220], [21, 209], [209, 221, 222], [209, 223], [209, 219, 224], [209, 215, 225], [202, 209, 226], [202, 227]], [[], [0], [], [], [], [], [], [], [], [], [], [0], [], [], [], [], [], [], [], [], [0], [], [], [], [], [], [], [0], [], [], [], [], [], [], [], [], [], [0], [], [], [], [], [], [], []], [none, none, none, none, none, none, none, none, none, none, none, none, none, none, none, none, none, none, none, none, none, none, none, none, none, none, none, none, none, none, none, none, none, none, none, none, none, none, none, none, none, none, none, none, none]⟩ mo r4_29_ok (by decide +kernel) (l := r4_29.toList) rfl ?_
    refine d_op rfl rfl rfl (fun _ => (by first | exact o_fa tf60_0 rfl rfl | exact o_fap tf60_0 rfl rfl)) ?_
    refine d_op rfl rfl rfl (fun _ => (by first | exact o_ld tg57 rfl rfl | exact o_ldp tg57 rfl rfl rfl rfl)) ?_
    refine d_op rfl rfl rfl (fun _ => o_mv rfl) ?_
    refine d_op rfl rfl rfl (fun _ => o_ix te57 tn34 rfl rfl rfl (ixm _ _ _ hkr)) ?_
    refine d_op rfl rfl rfl (fun _ => (by first | exact o_ld tg34 rfl rfl | exact o_ldp tg34 rfl rfl rfl rfl)) ?_
    refine d_op rfl rfl rfl (fun _ => o_len rfl rfl (by first | exact List.length_map .. | rfl) tl34) ?_
    refine d_op rfl rfl rfl (fun _ => o_mv rfl) ?_
    refine d_op rfl rfl rfl (fun _ => o_mv rfl) ?_
    refine d_op rfl rfl rfl (fun _ => o_ix te34 tn3 rfl rfl rfl (ixm _ _ _ hkc)) ?_
    refine d_op rfl rfl rfl (fun _ => (by first | exact o_ld tg3 rfl rfl | exact o_ldp tg3 rfl rfl rfl rfl)) ?_
    refine d_op rfl rfl rfl (fun _ => (by first | exact o_fa tf60_1 rfl rfl | exact o_fap tf60_1 rfl rfl)) ?_
    refine d_op rfl rfl rfl (fun _ => (by first | exact o_ld tg34 rfl rfl | exact o_ldp tg34 rfl rfl rfl rfl)) ?_
    refine d_op rfl rfl rfl (fun _ => o_mv rfl) ?_
    refine d_op rfl rfl rfl (fun _ => o_ix te34 tn3 rfl rfl rfl (ixm _ _ _ hks)) ?_
    refine d_op rfl rfl rfl (fun _ => (by first | exact o_ld tg3 rfl rfl | exact o_ldp tg3 rfl rfl rfl rfl)) ?_
    refine d_op rfl rfl rfl (fun _ => o_add rfl rfl (by simp only [klo, khi]; omega)) ?_
    refine d_op rfl rfl rfl (fun _ => o_mul rfl rfl hq7) ?_
    refine d_if rfl rfl rfl (fun _ => o_gt rfl rfl) (fun h27 => ?_) (fun h28 => ?_)
    · omega
    refine d_op rfl rfl rfl (fun _ => o_mv rfl) ?_
    refine d_op rfl rfl rfl (fun _ => (by first | exact o_fa tf60_1 rfl rfl | exact o_fap tf60_1 rfl rfl)) ?_
    refine d_op rfl rfl rfl (fun _ => (by first | exact o_ld tg34 rfl rfl | exact o_ldp tg34 rfl rfl rfl rfl)) ?_
    refine d_op rfl rfl rfl (fun _ => o_mv rfl) ?_
    refine d_op rfl rfl rfl (fun _ => o_ix te34 tn3 rfl rfl rfl (ixm _ _ _ hks)) ?_
    refine d_op rfl rfl rfl (fun _ => (by first | exact o_ld tg3 rfl rfl | exact o_ldp tg3 rfl rfl rfl rfl)) ?_
    refine d_if rfl rfl rfl (fun _ => o_gt rfl rfl) (fun h29 => ?_) (fun h30 => ?_)
    · refine d_op rfl rfl rfl (fun _ => o_mv rfl) ?_
      refine d_op rfl rfl rfl (fun _ => (by first | exact o_fa tf60_0 rfl rfl | exact o_fap tf60_0 rfl rfl)) ?_
      refine d_op rfl rfl rfl (fun _ => (by first | exact o_ld tg57 rfl rfl | exact o_ldp tg57 rfl rfl rfl rfl)) ?_
      refine d_op rfl rfl rfl (fun _ => o_mv rfl) ?_
      refine d_op rfl rfl rfl (fun _ => o_ix te57 tn34 rfl rfl rfl (ixm _ _ _ hkr)) ?_
      refine d_op rfl rfl rfl (fun _ => (by first | exact o_ld tg34 rfl rfl | exact o_ldp tg34 rfl rfl rfl rfl)) ?_
      refine d_op rfl rfl rfl (fun _ => o_len rfl rfl (by first | exact List.length_map .. | rfl) tl34) ?_
      refine d_op rfl rfl rfl (fun _ => o_mv rfl) ?_
      refine d_op rfl rfl rfl (fun _ => o_mv rfl) ?_
      refine d_op rfl rfl rfl (fun _ => o_ix te34 tn3 rfl rfl rfl (ixm _ _ _ hkc)) ?_
      refine d_op rfl rfl rfl (fun _ => (by first | exact o_ld tg3 rfl rfl | exact o_ldp tg3 rfl rfl rfl rfl)) ?_
      refine d_op rfl rfl rfl (fun _ => (by first | exact o_fa tf60_1 rfl rfl | exact o_fap tf60_1 rfl rfl)) ?_
      refine d_op rfl rfl rfl (fun _ => (by first | exact o_ld tg34 rfl rfl | exact o_ldp tg34 rfl rfl rfl rfl)) ?_
      refine d_op rfl rfl rfl (fun _ => o_mv rfl) ?_
      refine d_op rfl rfl rfl (fun _ => o_ix te34 tn3 rfl rfl rfl (ixm _ _ _ hks)) ?_
      refine d_op rfl rfl rfl (fun _ => (by first | exact o_ld tg3 rfl rfl | exact o_ldp tg3 rfl rfl rfl rfl)) ?_
      refine d_op rfl rfl rfl (fun _ => o_mul rfl rfl hq8) ?_
      refine d_if rfl rfl rfl (fun _ => o_le rfl rfl) (fun h31 => ?_) (fun h32 => ?_)
      · omega
      refine d_op rfl rfl rfl (fun _ => o_pkt rfl rfl) ?_
      refine d_op rfl rfl rfl (fun _ => o_pkf rfl rfl) ?_
      refine d_nil ?_
      refine tq_n ?_
      refine w_false rfl ?_
      refine awp_skip ?_
      refine tq_n ?_
      refine awp_seq ?_
      refine w_reg (l := r4_31.toList) rfl r4_31_ok ?_
      refine a_op rfl (o_mv rfl) ?_
      refine a_op rfl ((by first | exact o_fa tf60_1 rfl rfl | exact o_fap tf60_1 rfl rfl)) ?_
      refine a_op rfl ((by first | exact o_ld tg34 rfl rfl | exact o_ldp tg34 rfl rfl rfl rfl)) ?_
      refine a_op rfl (o_mv rfl) ?_
      refine a_op rfl (o_ix te34 tn3 rfl rfl rfl (ixm _ _ _ hks)) ?_
      refine a_op rfl ((by first | exact o_ld tg3 rfl rfl | exact o_ldp tg3 rfl rfl rfl rfl)) ?_
      refine a_op rfl (o_add rfl rfl (by simp only [klo, khi]; omega)) ?_
      refine a_op rfl (o_as rfl) ?_
      refine a_nil ?_
      refine tq_n ?_
      refine w_reg (l := r4_32.toList) rfl r4_32_ok ?_
      refine a_op rfl (o_mv rfl) ?_
      refine a_op rfl ((by first | exact o_fa tf60_0 rfl rfl | exact o_fap tf60_0 rfl rfl)) ?_
      refine a_op rfl ((by first | exact o_ld tg57 rfl rfl | exact o_ldp tg57 rfl rfl rfl rfl)) ?_
      refine a_op rfl (o_mv rfl) ?_
      refine a_op rfl (o_ix te57 tn34 rfl rfl rfl (ixm _ _ _ hkr)) ?_
      refine a_op rfl ((by first | exact o_ld tg34 rfl rfl | exact o_ldp tg34 rfl rfl rfl rfl)) ?_
      refine a_op rfl (o_len rfl rfl (by first | exact List.length_map .. | rfl) tl34) ?_
      refine a_op rfl (o_add rfl rfl (by simp only [klo, khi]; omega)) ?_
      refine a_op rfl (o_as rfl) ?_
      refine a_nil ?_
      refine bq_n ?_
      refine tq_n ?_
      refine w_reg (l := r4_33.toList) rfl r4_33_ok ?_
      refine a_op rfl (o_add rfl rfl (by simp only [klo, khi]; omega)) ?_
      refine a_op rfl (o_mv rfl) ?_
      refine a_nil ?_
      refine tq_n ?_
      exact ⟨k + 1, ⟨by omega, by omega⟩, ⟨(by first | exact sub_int rfl (by omega) | rfl | exact sub_int rfl (by rw [sum_take_succ (by omega)]) | exact sub_int rfl (by rw [sumL_succ (by omega)]; omega) | exact sub_int rfl (by simp [sumL])), (by first | exact sub_int rfl (by omega) | rfl | exact sub_int rfl (by rw [sum_take_succ (by omega)]) | exact sub_int rfl (by rw [sumL_succ (by omega)]; omega) | exact sub_int rfl (by simp [sumL])), (by first | exact sub_int rfl (by omega) | rfl | exact sub_int rfl (by rw [sum_take_succ (by omega)]) | exact sub_int rfl (by rw [sumL_succ (by omega)]; omega) | exact sub_int rfl (by simp [sumL])), (by first | exact sub_int rfl (by omega) | rfl | exact sub_int rfl (by rw [sum_take_succ (by omega)]) | exact sub_int rfl (by rw [sumL_succ (by omega)]; omega) | exact sub_int rfl (by simp [sumL])), (by first | exact sub_int rfl (by omega) | rfl | exact sub_int rfl (by rw [sum_take_succ (by omega)]) | exact sub_int rfl (by rw [sumL_succ (by omega)]; omega) | exact sub_int rfl (by simp [sumL])), (by first | exact sub_int rfl (by omega) | rfl | exact sub_int rfl (by rw [sum_take_succ (by omega)]) | exact sub_int rfl (by rw [sumL_succ (by omega)]; omega) | exact sub_int rfl (by simp [sumL])), (by first | exact sub_int rfl (by omega) | rfl | exact sub_int rfl (by rw [sum_take_succ (by omega)]) | exact sub_int rfl (by rw [sumL_succ (by omega)]; omega) | exact sub_int rfl (by simp [sumL])), (by first | exact sub_int rfl (by omega) | rfl | exact sub_int rfl (by rw [sum_take_succ (by omega)]) | exact sub_int rfl (by rw [sumL_succ (by omega)]; omega) | exact sub_int rfl (by simp [sumL])), trivial⟩, rfl⟩
    refine d_op rfl rfl rfl (fun _ => o_mv rfl) ?_
    refine d_off rfl rfl ?_
    refine d_off rfl rfl ?_
    refine d_off rfl rfl ?_
    refine d_off rfl rfl ?_
    refine d_off rfl rfl ?_
    refine d_off rfl rfl ?_
    refine d_off rfl rfl ?_
    refine d_off rfl rfl ?_
    refine d_off rfl rfl ?_
    refine d_off rfl rfl ?_
    refine d_off rfl rfl ?_
    refine d_off rfl rfl ?_
    refine d_off rfl rfl ?_
    refine d_off rfl rfl ?_
    refine d_off rfl rfl ?_
    refine d_off rfl rfl ?_
    refine d_off rfl rfl ?_
    refine d_op rfl rfl rfl (fun _ => o_pkf rfl rfl) ?_
    refine d_op rfl rfl rfl (fun _ => o_pkf rfl rfl) ?_
    refine d_nil ?_
    refine tq_n ?_
    refine w_false rfl ?_
    refine awp_skip ?_
    refine tq_n ?_
    refine awp_seq ?_
    refine w_reg (l := r4_31.toList) rfl r4_31_ok ?_
    refine a_op rfl (o_mv rfl) ?_
    refine a_op rfl ((by first | exact o_fa tf60_1 rfl rfl | exact o_fap tf60_1 rfl rfl)) ?_
    refine a_op rfl ((by first | exact o_ld tg34 rfl rfl | exact o_ldp tg34 rfl rfl rfl rfl)) ?_
    refine a_op rfl (o_mv rfl) ?_
    refine a_op rfl (o_ix te34 tn3 rfl rfl rfl (ixm _ _ _ hks)) ?_
    refine a_op rfl ((by first | exact o_ld tg3 rfl rfl | exact o_ldp tg3 rfl rfl rfl rfl)) ?_
    refine a_op rfl (o_add rfl rfl (by simp only [klo, khi]; omega)) ?_
    refine a_op rfl (o_as rfl) ?_
    refine a_nil ?_
    refine tq_n ?_
    refine w_reg (l := r4_32.toList) rfl r4_32_ok ?_
    refine a_op rfl (o_mv rfl) ?_
    refine a_op rfl ((by first | exact o_fa tf60_0 rfl rfl | exact o_fap tf60_0 rfl rfl)) ?_
    refine a_op rfl ((by first | exact o_ld tg57 rfl rfl | exact o_ldp tg57 rfl rfl rfl rfl)) ?_
    refine a_op rfl (o_mv rfl) ?_
    refine a_op rfl (o_ix te57 tn34 rfl rfl rfl (ixm _ _ _ hkr)) ?_
    refine a_op rfl ((by first | exact o_ld tg34 rfl rfl | exact o_ldp tg34 rfl rfl rfl rfl)) ?_
    refine a_op rfl (o_len rfl rfl (by first | exact List.length_map .. | rfl) tl34) ?_
    refine a_op rfl (o_add rfl rfl (by simp only [klo, khi]; omega)) ?_
    refine a_op rfl (o_as rfl) ?_
    refine a_nil ?_
    refine bq_n ?_
    refine tq_n ?_
    refine w_reg (l := r4_33.toList) rfl r4_33_ok ?_
    refine a_op rfl (o_add rfl rfl (by simp only [klo, khi]; omega)) ?_
    refine a_op rfl (o_mv rfl) ?_
    refine a_nil ?_
    refine tq_n ?_
    exact ⟨k + 1, ⟨by omega, by omega⟩, ⟨(by first | exact sub_int rfl (by omega) | rfl | exact sub_int rfl (by rw [sum_take_succ (by omega)]) | exact sub_int rfl (by rw [sumL_succ (by omega)]; omega) | exact sub_int rfl (by simp [sumL])), (by first | exact sub_int rfl (by omega) | rfl | exact sub_int rfl (by rw [sum_take_succ (by omega)]) | exact sub_int rfl (by rw [sumL_succ (by omega)]; omega) | exact sub_int rfl (by simp [sumL])), (by first | exact sub_int rfl (by omega) | rfl | exact sub_int rfl (by rw [sum_take_succ (by omega)]) | exact sub_int rfl (by rw [sumL_succ (by omega)]; omega) | exact sub_int rfl (by simp [sumL])), (by first | exact sub_int rfl (by omega) | rfl | exact sub_int rfl (by rw [sum_take_succ (by omega)]) | exact sub_int rfl (by rw [sumL_succ (by omega)]; omega) | exact sub_int rfl (by simp [sumL])), (by first | exact sub_int rfl (by omega) | rfl | exact sub_int rfl (by rw [sum_take_succ (by omega)]) | exact sub_int rfl (by rw [sumL_succ (by omega)]; omega) | exact sub_int rfl (by simp [sumL])), (by first | exact sub_int rfl (by omega) | rfl | exact sub_int rfl (by rw [sum_take_succ (by omega)]) | exact sub_int rfl (by rw [sumL_succ (by omega)]; omega) | exact sub_int rfl (by simp [sumL])), (by first | exact sub_int rfl (by omega) | rfl | exact sub_int rfl (by rw [sum_take_succ (by omega)]) | exact sub_int rfl (by rw [sumL_succ (by omega)]; omega) | exact sub_int rfl (by simp [sumL])), (by first | exact sub_int rfl (by omega) | rfl | exact sub_int rfl (by rw [sum_take_succ (by omega)]) | exact sub_int rfl (by rw [sumL_succ (by omega)]; omega) | exact sub_int rfl (by simp [sumL])), trivial⟩, rfl⟩
  refine a_nil ?_
  refine tq_n ?_
  refine awp_seq ?_
  refine w_false rfl ?_
  refine awp_exit ?_
  refine tq_x ?_
  refine tq_x ?_
  refine bq_hit ?_
  refine tq_n ?_
  refine awp_seq ?_
  have hkk : k = cs.length := by omega
  have e1 : S.swept.take k = S.swept := List.take_of_length_le (by omega)
  have e2 : sumL S.rows k = S.rows.flatten.length := by rw [hkk, ← hir, sumL_all]
  have hov : S.over.length = 0 ∨ (S.swept.take k).sum = sw := by
    rw [e1]
    rcases Decidable.em (S.over.length = 0) with h | h
    · exact .inl h
    · have := hiv.ov (fun h0 => h (by rw [h0]; rfl))
      exact .inr (by omega)
  refine w_reg (l := r4_34.toList) rfl r4_34_ok ?_
  refine a_op rfl (o_mv rfl) ?_
  refine a_op rfl (o_mv rfl) ?_
  refine a_if rfl (o_le rfl rfl) (fun h33 => ?_) (fun h34 => ?_)
  · refine a_op rfl (o_mv rfl) ?_
    refine a_op rfl ((by first | exact o_fa tf60_2 rfl rfl | exact o_fap tf60_2 rfl rfl)) ?_
    refine a_op rfl ((by first | exact o_ld tg34 rfl rfl | exact o_ldp tg34 rfl rfl rfl rfl)) ?_
    refine a_op rfl (o_len rfl rfl (by first | exact List.length_map .. | rfl) tl34) ?_
    refine a_if rfl (o_eq rfl rfl) (fun h35 => ?_) (fun h36 => ?_)
    · refine a_op rfl (o_mv rfl) ?_
      refine a_off rfl ?_
      refine a_off rfl ?_
      refine a_off rfl ?_
      refine a_op rfl (o_pkt rfl rfl) ?_
      refine a_op rfl (o_pkt rfl rfl) ?_
      refine a_op rfl (o_mv rfl) ?_
      refine a_op rfl ((by first | exact o_ldg tg60 tn60 rfl rfl | exact o_ldpg tg60 tn60 rfl rfl rfl rfl)) ?_
      refine a_pure rfl rfl rfl cb31 (leave_ok S (by omega) (by omega)) ?_
      refine a_op rfl (o_len rfl rfl (by first | exact List.length_map .. | rfl) tl34) ?_
      refine a_op rfl (o_mv rfl) ?_
      refine a_if rfl (o_eq rfl rfl) (fun h37 => ?_) (fun h38 => ?_)
      · refine a_op rfl (o_pkt rfl rfl) ?_
        refine a_op rfl (o_mv rfl) ?_
        refine a_pure rfl rfl rfl cb32 awake_ok ?_
        refine a_op rfl (o_pkt rfl rfl) ?_
        refine a_op rfl (o_as rfl) ?_
        refine a_nil ?_
        refine tq_n ?_
        refine awp_ret ?_
        refine r_one rfl ⟨rfl, trivial⟩ ?_
        exact rs_pur (by simp) rfl
      omega
    refine a_op rfl (o_mv rfl) ?_
    refine a_op rfl (o_mv rfl) ?_
    refine a_op rfl (o_mv rfl) ?_
    refine a_if rfl (o_eq rfl rfl) (fun h39 => ?_) (fun h40 => ?_)
    · refine a_op rfl (o_pkf rfl rfl) ?_
      refine a_op rfl (o_pkt rfl rfl) ?_
      refine a_op rfl (o_mv rfl) ?_
      refine a_op rfl ((by first | exact o_ldg tg60 tn60 rfl rfl | exact o_ldpg tg60 tn60 rfl rfl rfl rfl)) ?_
      refine a_pure rfl rfl rfl cb31 (leave_ok S (by omega) (by omega)) ?_
      refine a_op rfl (o_len rfl rfl (by first | exact List.length_map .. | rfl) tl34) ?_
      refine a_op rfl (o_mv rfl) ?_
      refine a_if rfl (o_eq rfl rfl) (fun h41 => ?_) (fun h42 => ?_)
      · refine a_op rfl (o_pkt rfl rfl) ?_
        refine a_op rfl (o_mv rfl) ?_
        refine a_pure rfl rfl rfl cb32 awake_ok ?_
        refine a_op rfl (o_pkt rfl rfl) ?_
        refine a_op rfl (o_as rfl) ?_
        refine a_nil ?_
        refine tq_n ?_
        refine awp_ret ?_
        refine r_one rfl ⟨rfl, trivial⟩ ?_
        exact rs_pur (by simp) rfl
      omega
    omega
  omega
end Go.Ab.S
