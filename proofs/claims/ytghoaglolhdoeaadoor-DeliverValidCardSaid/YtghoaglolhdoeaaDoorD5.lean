/- What functions of this program compute, and the laws of what they compute, under the bounds on lengths that each contract states. -/
import Derived.Test.YtghoaglolhdoeaaDoorD4
set_option linter.unusedSimpArgs false
set_option linter.unusedVariables false
namespace Go.Ab.D
open Go Go.Ab Go.Proofs
def len8 : ByteArray := { data := [0, 1, 2, 2, 3, 3, 3, 3, 4, 4, 4, 4, 4, 4, 4, 4, 5, 5, 5, 5, 5, 5, 5, 5, 5, 5, 5, 5, 5, 5, 5, 5, 6, 6, 6, 6, 6, 6, 6, 6, 6, 6, 6, 6, 6, 6, 6, 6, 6, 6, 6, 6, 6, 6, 6, 6, 6, 6, 6, 6, 6, 6, 6, 6, 7, 7, 7, 7, 7, 7, 7, 7, 7, 7, 7, 7, 7, 7, 7, 7, 7, 7, 7, 7, 7, 7, 7, 7, 7, 7, 7, 7, 7, 7, 7, 7, 7, 7, 7, 7, 7, 7, 7, 7, 7, 7, 7, 7, 7, 7, 7, 7, 7, 7, 7, 7, 7, 7, 7, 7, 7, 7, 7, 7, 7, 7, 7, 7, 8, 8, 8, 8, 8, 8, 8, 8, 8, 8, 8, 8, 8, 8, 8, 8, 8, 8, 8, 8, 8, 8, 8, 8, 8, 8, 8, 8, 8, 8, 8, 8, 8, 8, 8, 8, 8, 8, 8, 8, 8, 8, 8, 8, 8, 8, 8, 8, 8, 8, 8, 8, 8, 8, 8, 8, 8, 8, 8, 8, 8, 8, 8, 8, 8, 8, 8, 8, 8, 8, 8, 8, 8, 8, 8, 8, 8, 8, 8, 8, 8, 8, 8, 8, 8, 8, 8, 8, 8, 8, 8, 8, 8, 8, 8, 8, 8, 8, 8, 8, 8, 8, 8, 8, 8, 8, 8, 8, 8, 8, 8, 8, 8, 8, 8, 8, 8, 8, 8, 8, 8, 8, 8, 8, 8, 8, 8, 8].toArray }
theorem len8_ok : ∀ j, j < 13 → (len8[j]?).any (fun b => b.toNat ≤ 4) = true := by decide +kernel
theorem len8_at {n : Int} (h0 : 0 ≤ n) (h1 : n ≤ 12) : ∃ b, len8[n.toNat]? = some b ∧ b.toNat ≤ 4 := by
  have := len8_ok n.toNat (by omega)
  cases h : len8[n.toNat]? with
  | none => rw [h] at this; cases this
  | some b => rw [h] at this; exact ⟨b, rfl, by simpa using this⟩
theorem srt {xs : List Int} (h : xs.Pairwise (· < ·)) {i j : Nat} (hj : j < xs.length) (hij : i < j) : xs[i] < xs[j] := (List.pairwise_iff_getElem.1 h) i j (by omega) hj hij

noncomputable def r100_0 : Array Oper := opsAt Tryd.f100 [0]
theorem r100_0_ok : dstOk 25 r100_0.toList = true ∧ r100_0.toList.all (fun o => noDefer o.op) = true := by decide +kernel
noncomputable def r100_1 : Array Oper := opsAt Tryd.f100 [1, 0, 0]
theorem r100_1_ok : dstOk 25 r100_1.toList = true ∧ r100_1.toList.all (fun o => noDefer o.op) = true := by decide +kernel
noncomputable def r100_2 : Array Oper := opsAt Tryd.f100 [1, 0, 1, 0, 0]
theorem r100_2_ok : dstOk 25 r100_2.toList = true ∧ r100_2.toList.all (fun o => noDefer o.op) = true := by decide +kernel
noncomputable def r100_3 : Array Oper := opsAt Tryd.f100 [1, 0, 1, 0, 1]
theorem r100_3_ok : dstOk 25 r100_3.toList = true ∧ r100_3.toList.all (fun o => noDefer o.op) = true := by decide +kernel
noncomputable def r100_4 : Array Oper := opsAt Tryd.f100 [1, 1, 0, 0]
theorem r100_4_ok : dstOk 25 r100_4.toList = true ∧ r100_4.toList.all (fun o => noDefer o.op) = true := by decide +kernel
noncomputable def r100_5 : Array Oper := opsAt Tryd.f100 [1, 1, 0, 1, 0, 0]
theorem r100_5_ok : dstOk 25 r100_5.toList = true ∧ r100_5.toList.all (fun o => noDefer o.op) = true := by decide +kernel
noncomputable def r100_6 : Array Oper := opsAt Tryd.f100 [1, 1, 0, 1, 0, 1]
theorem r100_6_ok : dstOk 25 r100_6.toList = true ∧ r100_6.toList.all (fun o => noDefer o.op) = true := by decide +kernel
noncomputable def r100_7 : Array Oper := opsAt Tryd.f100 [1, 1, 1, 0, 0]
theorem r100_7_ok : dstOk 25 r100_7.toList = true ∧ r100_7.toList.all (fun o => noDefer o.op) = true := by decide +kernel
noncomputable def r100_8 : Array Oper := opsAt Tryd.f100 [1, 1, 1, 0, 1, 0, 0]
theorem r100_8_ok : dstOk 25 r100_8.toList = true ∧ r100_8.toList.all (fun o => noDefer o.op) = true := by decide +kernel
noncomputable def r100_9 : Array Oper := opsAt Tryd.f100 [1, 1, 1, 0, 1, 0, 1]
theorem r100_9_ok : dstOk 25 r100_9.toList = true ∧ r100_9.toList.all (fun o => noDefer o.op) = true := by decide +kernel
noncomputable def r100_10 : Array Oper := opsAt Tryd.f100 [1, 1, 1, 1, 0]
theorem r100_10_ok : dstOk 25 r100_10.toList = true ∧ r100_10.toList.all (fun o => noDefer o.op) = true := by decide +kernel
noncomputable def c100 : Code := (.seq (.region 0 r100_0 false) (.seq (.seq (.region 1 r100_1 false) (.cond (.tmp 4) (.seq (.region 2 r100_2 false) (.region 3 r100_3 false)) .skip)) (.seq (.seq (.region 4 r100_4 false) (.cond (.tmp 8) (.seq (.region 5 r100_5 false) (.region 6 r100_6 false)) .skip)) (.seq (.seq (.region 7 r100_7 false) (.cond (.tmp 14) (.seq (.region 8 r100_8 false) (.region 9 r100_9 false)) .skip)) (.seq (.region 10 r100_10 false) .ret)))))
theorem body100 : Tryd.f100.body = some c100 := by kernel_rfl
theorem len64_ok (n : Int) (hn0 : 0 ≤ n) (hn : n ≤ 12) : PureCall Tryd.prog GL 100 [.raw (.int .u64 n)] (.any) := by
  refine pure_of_body Tryd.func100 body100 (Nat.le_of_ble_eq_true rfl) (by simp) (by simp) ?_
  refine w_keep [(0, .raw (.int .u64 n))] ⟨rfl, trivial⟩ ?_
  unfold c100
  obtain ⟨bb, hbb1, hbb2⟩ := len8_at hn0 hn
  refine awp_seq ?_
  refine w_reg (l := r100_0.toList) rfl r100_0_ok ?_
  refine a_op rfl (o_as rfl) ?_
  refine a_nil ?_
  refine tq_n ?_
  refine awp_seq ?_
  refine awp_seq ?_
  refine w_reg (l := r100_1.toList) rfl r100_1_ok ?_
  refine a_op rfl (o_mv rfl) ?_
  refine a_if rfl (o_ge rfl rfl) (fun h1 => ?_) (fun h2 => ?_)
  · omega
  · refine a_nil ?_
    refine tq_n ?_
    refine w_false rfl ?_
    refine awp_skip ?_
    refine tq_n ?_
    refine awp_seq ?_
    refine awp_seq ?_
    refine w_reg (l := r100_4.toList) rfl r100_4_ok ?_
    refine a_op rfl (o_mv rfl) ?_
    refine a_if rfl (o_ge rfl rfl) (fun h3 => ?_) (fun h4 => ?_)
    · omega
    · refine a_nil ?_
      refine tq_n ?_
      refine w_false rfl ?_
      refine awp_skip ?_
      refine tq_n ?_
      refine awp_seq ?_
      refine awp_seq ?_
      refine w_reg (l := r100_7.toList) rfl r100_7_ok ?_
      refine a_op rfl (o_mv rfl) ?_
      refine a_if rfl (o_ge rfl rfl) (fun h5 => ?_) (fun h6 => ?_)
      · omega
      · refine a_nil ?_
        refine tq_n ?_
        refine w_false rfl ?_
        refine awp_skip ?_
        refine tq_n ?_
        refine awp_seq ?_
        refine w_reg (l := r100_10.toList) rfl r100_10_ok ?_
        refine a_op rfl (o_mv rfl) ?_
        refine a_op rfl (o_mv rfl) ?_
        refine a_op rfl (o_cv tk145 tk5 rfl (by simp only [klo, khi]; omega)) ?_
        refine a_op rfl (o_sx (s := len8) tl9 rfl rfl (j := n.toNat) (by omega) hbb1) ?_
        refine a_op rfl (o_cv tk5 tk3 rfl (by simp only [klo, khi]; omega)) ?_
        refine a_op rfl (o_add rfl rfl (by simp only [klo, khi]; omega)) ?_
        refine a_op rfl (o_as rfl) ?_
        refine a_nil ?_
        refine tq_n ?_
        refine awp_ret ?_
        refine r_one rfl ⟨rfl, trivial⟩ ?_
        exact .any _
noncomputable def r66_0 : Array Oper := opsAt Tryd.f66 [0]
theorem r66_0_ok : dstOk 8 r66_0.toList = true ∧ r66_0.toList.all (fun o => noDefer o.op) = true := by decide +kernel
noncomputable def r66_1 : Array Oper := opsAt Tryd.f66 [1, 0, 0, 0]
theorem r66_1_ok : dstOk 8 r66_1.toList = true ∧ r66_1.toList.all (fun o => noDefer o.op) = true := by decide +kernel
noncomputable def r66_2 : Array Oper := opsAt Tryd.f66 [1, 1, 0]
theorem r66_2_ok : dstOk 8 r66_2.toList = true ∧ r66_2.toList.all (fun o => noDefer o.op) = true := by decide +kernel
noncomputable def c66 : Code := (.seq (.region 0 r66_0 false) (.seq (.cond (.const (Value.bool false)) (.seq (.region 1 r66_1 false) .ret) .skip) (.seq (.region 2 r66_2 false) .ret)))
theorem body66 : Tryd.f66.body = some c66 := by kernel_rfl
theorem bitlen_ok (n : Int) (hn0 : 0 ≤ n) (hn : n ≤ 12) : PureCall Tryd.prog GL 66 [.raw (.int .u64 n)] (.any) := by
  refine pure_of_body Tryd.func66 body66 (Nat.le_of_ble_eq_true rfl) (by simp) (by simp) ?_
  refine w_keep [(0, .raw (.int .u64 n))] ⟨rfl, trivial⟩ ?_
  unfold c66
  refine awp_seq ?_
  refine w_reg (l := r66_0.toList) rfl r66_0_ok ?_
  refine a_op rfl (o_as rfl) ?_
  refine a_nil ?_
  refine tq_n ?_
  refine awp_seq ?_
  refine w_false rfl ?_
  refine awp_skip ?_
  refine tq_n ?_
  refine awp_seq ?_
  refine w_reg (l := r66_2.toList) rfl r66_2_ok ?_
  refine a_op rfl (o_mv rfl) ?_
  refine a_pure rfl rfl rfl cb100 (len64_ok _ (by omega) (by omega)) ?_
  refine a_op rfl (o_as rfl) ?_
  refine a_nil ?_
  refine tq_n ?_
  refine awp_ret ?_
  refine r_one rfl ⟨rfl, trivial⟩ ?_
  exact .any _
noncomputable def r91_0 : Array Oper := opsAt Tryd.f91 [0]
theorem r91_0_ok : dstOk 49 r91_0.toList = true ∧ r91_0.toList.all (fun o => noDefer o.op) = true := by decide +kernel
noncomputable def r91_1 : Array Oper := opsAt Tryd.f91 [1, 0, 0, 0, 0]
theorem r91_1_ok : dstOk 49 r91_1.toList = true ∧ r91_1.toList.all (fun o => noDefer o.op) = true := by decide +kernel
noncomputable def r91_3 : Array Oper := opsAt Tryd.f91 [1, 0, 0, 1, 0, 0, 0]
theorem r91_3_ok : dstOk 49 r91_3.toList = true ∧ r91_3.toList.all (fun o => noDefer o.op) = true := by decide +kernel
noncomputable def r91_4 : Array Oper := opsAt Tryd.f91 [1, 0, 0, 1, 0, 0, 1, 0, 0, 0, 0]
theorem r91_4_ok : dstOk 49 r91_4.toList = true ∧ r91_4.toList.all (fun o => noDefer o.op) = true := by decide +kernel
noncomputable def r91_6 : Array Oper := opsAt Tryd.f91 [1, 0, 0, 1, 0, 0, 1, 0, 0, 1, 0, 0]
theorem r91_6_ok : dstOk 49 r91_6.toList = true ∧ r91_6.toList.all (fun o => noDefer o.op) = true := by decide +kernel
noncomputable def r91_5 : Array Oper := opsAt Tryd.f91 [1, 0, 0, 1, 0, 0, 1, 0, 0, 1, 1]
theorem r91_5_ok : dstOk 49 r91_5.toList = true ∧ r91_5.toList.all (fun o => noDefer o.op) = true := by decide +kernel
noncomputable def b91_0 : Code := (.seq (.seq (.region 4 r91_4 true) (.cond (.tmp 30) .skip (.exit 2))) (.seq (.block 3 (.region 6 r91_6 true)) (.region 5 r91_5 false)))
noncomputable def r91_2 : Array Oper := opsAt Tryd.f91 [1, 0, 0, 1, 1]
theorem r91_2_ok : dstOk 49 r91_2.toList = true ∧ r91_2.toList.all (fun o => noDefer o.op) = true := by decide +kernel
noncomputable def b91_1 : Code := (.seq (.seq (.region 1 r91_1 false) (.cond (.tmp 12) .skip (.exit 0))) (.seq (.block 1 (.seq (.region 3 r91_3 false) (.block 2 (.loop b91_0)))) (.region 2 r91_2 false)))
noncomputable def c91 : Code := (.seq (.region 0 r91_0 false) (.block 0 (.loop b91_1)))
theorem body91 : Tryd.f91.body = some c91 := by kernel_rfl
theorem insertion_ok (b : Bool) (xs : List Int) (hl : xs.length ≤ 12) (hpw : xs.Pairwise (· < ·)) : PureCall Tryd.prog GL 91 [.sl 1 b (xs.map intAV), .raw (.int .i64 0), .raw (.int .i64 (xs.length : Int))] (.tup []) := by
  refine pure_of_body Tryd.func91 body91 (Nat.le_of_ble_eq_true rfl) (by simp) (by simp) ?_
  refine w_keep [(0, .sl 1 b (xs.map intAV)), (1, .raw (.int .i64 0)), (2, .raw (.int .i64 (xs.length : Int)))] ⟨rfl, rfl, rfl, trivial⟩ ?_
  unfold c91
  refine awp_seq ?_
  refine w_reg (l := r91_0.toList) rfl r91_0_ok ?_
  refine a_op rfl (o_mv rfl) ?_
  refine a_op rfl (o_add rfl rfl (by simp only [klo, khi]; omega)) ?_
  refine a_op rfl (o_as rfl) ?_
  refine a_nil ?_
  refine tq_n ?_
  refine awp_block ?_
  refine w_loop (fun i : Nat => 1 ≤ i) (fun i => [(0, .sl 1 b (xs.map intAV)), (1, .raw (.int .i64 0)), (2, .raw (.int .i64 (xs.length : Int))), (6, .raw (.int .i64 (i : Int)))]) (fun _ => []) (fun i => xs.length - i) (1) (by omega) ⟨(by first | exact sub_int rfl (by omega) | rfl), (by first | exact sub_int rfl (by omega) | rfl), (by first | exact sub_int rfl (by omega) | rfl), (by first | exact sub_int rfl (by omega) | rfl), trivial⟩ rfl ?_
  intro i hp1
  unfold b91_1
  refine awp_seq ?_
  refine awp_seq ?_
  refine w_reg (l := r91_1.toList) rfl r91_1_ok ?_
  refine a_op rfl (o_mv rfl) ?_
  refine a_op rfl (o_mv rfl) ?_
  refine a_if rfl (o_lt rfl rfl) (fun h1 => ?_) (fun h2 => ?_)
  · refine a_nil ?_
    refine tq_n ?_
    refine w_true rfl ?_
    refine awp_skip ?_
    refine tq_n ?_
    refine awp_seq ?_
    refine awp_block ?_
    refine awp_seq ?_
    refine w_reg (l := r91_3.toList) rfl r91_3_ok ?_
    refine a_op rfl (o_mv rfl) ?_
    refine a_op rfl (o_as rfl) ?_
    refine a_nil ?_
    refine tq_n ?_
    refine awp_block ?_
    refine w_loop (fun _ : Unit => True) (fun _ => [(0, .sl 1 b (xs.map intAV)), (1, .raw (.int .i64 0)), (2, .raw (.int .i64 (xs.length : Int))), (6, .raw (.int .i64 (i : Int))), (7, .raw (.int .i64 (i : Int)))]) (fun _ => []) (fun _ => 0) (()) trivial ⟨(by first | exact sub_int rfl (by omega) | rfl), (by first | exact sub_int rfl (by omega) | rfl), (by first | exact sub_int rfl (by omega) | rfl), (by first | exact sub_int rfl (by omega) | rfl), (by first | exact sub_int rfl (by omega) | rfl), trivial⟩ rfl ?_
    intro _ _
    unfold b91_0
    refine awp_seq ?_
    refine awp_seq ?_
    refine awp_draw ⟨[[], [], [0, 1], [0, 1, 2], [0, 1, 2, 3], [0, 1, 2, 3], [0, 1, 2, 3, 4, 5], [0, 1, 2, 3, 4, 5, 6], [0, 1, 2, 3], [0, 1, 2, 3], [0, 1, 2, 3, 9], [0, 1, 2, 3, 8, 9, 10], [0, 1, 2, 3, 8, 9, 10, 11], [0, 1, 2, 3, 4, 5, 6, 7, 8, 9, 10, 11, 12], [0, 1, 2, 3, 4, 5, 6, 7, 8, 9, 10, 11, 12, 13]], [[7], [1], [16, 17], [18], [0, 19], [7, 19], [19, 20, 21], [19, 22], [0, 19], [7, 19], [19, 25], [19, 24, 26], [19, 27], [19, 23, 28], [19, 29]], [[], [], [], [], [], [], [], [], [], [], [], [], [], [], []], [none, none, none, none, none, none, none, none, none, none, none, none, none, none, none]⟩ mo r91_4_ok (by decide +kernel) (l := r91_4.toList) rfl ?_
    refine d_op rfl rfl rfl (fun _ => o_mv rfl) ?_
    refine d_op rfl rfl rfl (fun _ => o_mv rfl) ?_
    refine d_if rfl rfl rfl (fun _ => o_gt rfl rfl) (fun h3 => ?_) (fun h4 => ?_)
    · have hb1 : i < xs.length := by omega
      have hb2 : i - 1 < xs.length := by omega
      refine d_op rfl rfl rfl (fun _ => o_mv rfl) ?_
      refine d_op rfl rfl rfl (fun _ => o_mv rfl) ?_
      refine d_op rfl rfl rfl (fun _ => o_mv rfl) ?_
      refine d_op rfl rfl rfl (fun _ => o_ix te34 tn3 rfl rfl rfl (ixm _ _ _ hb1)) ?_
      refine d_op rfl rfl rfl (fun _ => (by first | exact o_ld tg3 rfl rfl | exact o_ldp tg3 rfl rfl rfl rfl)) ?_
      refine d_op rfl rfl rfl (fun _ => o_mv rfl) ?_
      refine d_op rfl rfl rfl (fun _ => o_mv rfl) ?_
      refine d_op rfl rfl rfl (fun _ => o_sub rfl rfl (by simp only [klo, khi]; omega)) ?_
      refine d_op rfl rfl rfl (fun _ => o_ix te34 tn3 rfl rfl (j := i - 1) (by omega) (ixm _ _ _ hb2)) ?_
      refine d_op rfl rfl rfl (fun _ => (by first | exact o_ld tg3 rfl rfl | exact o_ldp tg3 rfl rfl rfl rfl)) ?_
      refine d_pureb rfl rfl rfl rfl cb89 (less_ok _ _) (fun h5 => ?_) (fun h6 => ?_)
      · exact absurd (of_decide_eq_true h5) (by have := srt hpw (i := i - 1) (j := i) (by omega) (by omega); omega)
      · refine d_op rfl rfl rfl (fun _ => o_pkt rfl rfl) ?_
        refine d_nil ?_
        refine tq_n ?_
        refine w_false rfl ?_
        refine awp_exit ?_
        refine tq_x ?_
        refine tq_x ?_
        refine bq_hit ?_
        refine bq_n ?_
        refine tq_n ?_
        refine w_reg (l := r91_2.toList) rfl r91_2_ok ?_
        refine a_op rfl (o_mv rfl) ?_
        refine a_op rfl (o_add rfl rfl (by simp only [klo, khi]; omega)) ?_
        refine a_op rfl (o_as rfl) ?_
        refine a_nil ?_
        refine tq_n ?_
        exact ⟨i + 1, ⟨by omega, by omega⟩, ⟨(by first | exact sub_int rfl (by omega) | rfl), (by first | exact sub_int rfl (by omega) | rfl), (by first | exact sub_int rfl (by omega) | rfl), (by first | exact sub_int rfl (by omega) | rfl), trivial⟩, rfl⟩
    · omega
  · refine a_nil ?_
    refine tq_n ?_
    refine w_false rfl ?_
    refine awp_exit ?_
    refine tq_x ?_
    refine tq_x ?_
    refine bq_hit ?_
    refine r_norm ?_
    refine r_none rfl trivial ?_
    exact rs_pur (by simp) rfl
noncomputable def r65_0 : Array Oper := opsAt Tryd.f65 [0]
theorem r65_0_ok : dstOk 134 r65_0.toList = true ∧ r65_0.toList.all (fun o => noDefer o.op) = true := by decide +kernel
noncomputable def r65_1 : Array Oper := opsAt Tryd.f65 [1, 0]
theorem r65_1_ok : dstOk 134 r65_1.toList = true ∧ r65_1.toList.all (fun o => noDefer o.op) = true := by decide +kernel
noncomputable def r65_2 : Array Oper := opsAt Tryd.f65 [1, 1, 0, 0, 0, 0]
theorem r65_2_ok : dstOk 134 r65_2.toList = true ∧ r65_2.toList.all (fun o => noDefer o.op) = true := by decide +kernel
noncomputable def r65_3 : Array Oper := opsAt Tryd.f65 [1, 1, 0, 0, 0, 1, 0, 0]
theorem r65_3_ok : dstOk 134 r65_3.toList = true ∧ r65_3.toList.all (fun o => noDefer o.op) = true := by decide +kernel
noncomputable def r65_4 : Array Oper := opsAt Tryd.f65 [1, 1, 0, 0, 0, 1, 0, 1, 0, 0]
theorem r65_4_ok : dstOk 134 r65_4.toList = true ∧ r65_4.toList.all (fun o => noDefer o.op) = true := by decide +kernel
noncomputable def r65_5 : Array Oper := opsAt Tryd.f65 [1, 1, 0, 0, 0, 1, 1, 0, 0]
theorem r65_5_ok : dstOk 134 r65_5.toList = true ∧ r65_5.toList.all (fun o => noDefer o.op) = true := by decide +kernel
noncomputable def r65_6 : Array Oper := opsAt Tryd.f65 [1, 1, 0, 0, 0, 1, 1, 0, 1, 0, 0]
theorem r65_6_ok : dstOk 134 r65_6.toList = true ∧ r65_6.toList.all (fun o => noDefer o.op) = true := by decide +kernel
noncomputable def r65_7 : Array Oper := opsAt Tryd.f65 [1, 1, 0, 0, 0, 1, 1, 1, 0, 0]
theorem r65_7_ok : dstOk 134 r65_7.toList = true ∧ r65_7.toList.all (fun o => noDefer o.op) = true := by decide +kernel
noncomputable def r65_8 : Array Oper := opsAt Tryd.f65 [1, 1, 0, 0, 0, 1, 1, 1, 0, 1, 0, 0]
theorem r65_8_ok : dstOk 134 r65_8.toList = true ∧ r65_8.toList.all (fun o => noDefer o.op) = true := by decide +kernel
noncomputable def r65_9 : Array Oper := opsAt Tryd.f65 [1, 1, 0, 0, 0, 1, 1, 1, 0, 1, 0, 1]
theorem r65_9_ok : dstOk 134 r65_9.toList = true ∧ r65_9.toList.all (fun o => noDefer o.op) = true := by decide +kernel
noncomputable def r65_10 : Array Oper := opsAt Tryd.f65 [1, 1, 0, 0, 0, 1, 1, 1, 1, 0]
theorem r65_10_ok : dstOk 134 r65_10.toList = true ∧ r65_10.toList.all (fun o => noDefer o.op) = true := by decide +kernel
noncomputable def r65_11 : Array Oper := opsAt Tryd.f65 [1, 1, 0, 0, 0, 1, 1, 1, 1, 1, 0, 0]
theorem r65_11_ok : dstOk 134 r65_11.toList = true ∧ r65_11.toList.all (fun o => noDefer o.op) = true := by decide +kernel
noncomputable def r65_12 : Array Oper := opsAt Tryd.f65 [1, 1, 0, 0, 0, 1, 1, 1, 1, 1, 0, 1, 0, 0]
theorem r65_12_ok : dstOk 134 r65_12.toList = true ∧ r65_12.toList.all (fun o => noDefer o.op) = true := by decide +kernel
noncomputable def r65_13 : Array Oper := opsAt Tryd.f65 [1, 1, 0, 0, 0, 1, 1, 1, 1, 1, 0, 1, 0, 1, 0]
theorem r65_13_ok : dstOk 134 r65_13.toList = true ∧ r65_13.toList.all (fun o => noDefer o.op) = true := by decide +kernel
noncomputable def r65_14 : Array Oper := opsAt Tryd.f65 [1, 1, 0, 0, 0, 1, 1, 1, 1, 1, 0, 1, 0, 1, 1]
theorem r65_14_ok : dstOk 134 r65_14.toList = true ∧ r65_14.toList.all (fun o => noDefer o.op) = true := by decide +kernel
noncomputable def r65_15 : Array Oper := opsAt Tryd.f65 [1, 1, 0, 0, 0, 1, 1, 1, 1, 1, 1, 0, 0]
theorem r65_15_ok : dstOk 134 r65_15.toList = true ∧ r65_15.toList.all (fun o => noDefer o.op) = true := by decide +kernel
noncomputable def r65_16 : Array Oper := opsAt Tryd.f65 [1, 1, 0, 0, 0, 1, 1, 1, 1, 1, 1, 0, 1, 0, 0]
theorem r65_16_ok : dstOk 134 r65_16.toList = true ∧ r65_16.toList.all (fun o => noDefer o.op) = true := by decide +kernel
noncomputable def r65_17 : Array Oper := opsAt Tryd.f65 [1, 1, 0, 0, 0, 1, 1, 1, 1, 1, 1, 1, 0, 0]
theorem r65_17_ok : dstOk 134 r65_17.toList = true ∧ r65_17.toList.all (fun o => noDefer o.op) = true := by decide +kernel
noncomputable def r65_18 : Array Oper := opsAt Tryd.f65 [1, 1, 0, 0, 0, 1, 1, 1, 1, 1, 1, 1, 0, 1, 0, 0]
theorem r65_18_ok : dstOk 134 r65_18.toList = true ∧ r65_18.toList.all (fun o => noDefer o.op) = true := by decide +kernel
noncomputable def r65_19 : Array Oper := opsAt Tryd.f65 [1, 1, 0, 0, 0, 1, 1, 1, 1, 1, 1, 1, 0, 1, 0, 1, 0]
theorem r65_19_ok : dstOk 134 r65_19.toList = true ∧ r65_19.toList.all (fun o => noDefer o.op) = true := by decide +kernel
noncomputable def r65_20 : Array Oper := opsAt Tryd.f65 [1, 1, 0, 0, 0, 1, 1, 1, 1, 1, 1, 1, 1, 0]
theorem r65_20_ok : dstOk 134 r65_20.toList = true ∧ r65_20.toList.all (fun o => noDefer o.op) = true := by decide +kernel
noncomputable def r65_21 : Array Oper := opsAt Tryd.f65 [1, 1, 0, 0, 0, 1, 1, 1, 1, 1, 1, 1, 1, 1, 0]
theorem r65_21_ok : dstOk 134 r65_21.toList = true ∧ r65_21.toList.all (fun o => noDefer o.op) = true := by decide +kernel
noncomputable def r65_22 : Array Oper := opsAt Tryd.f65 [1, 1, 0, 0, 0, 1, 1, 1, 1, 1, 1, 1, 1, 1, 1, 0]
theorem r65_22_ok : dstOk 134 r65_22.toList = true ∧ r65_22.toList.all (fun o => noDefer o.op) = true := by decide +kernel
noncomputable def r65_23 : Array Oper := opsAt Tryd.f65 [1, 1, 0, 0, 0, 1, 1, 1, 1, 1, 1, 1, 1, 1, 1, 1, 0]
theorem r65_23_ok : dstOk 134 r65_23.toList = true ∧ r65_23.toList.all (fun o => noDefer o.op) = true := by decide +kernel
noncomputable def r65_24 : Array Oper := opsAt Tryd.f65 [1, 1, 0, 0, 0, 1, 1, 1, 1, 1, 1, 1, 1, 1, 1, 1, 1, 0]
theorem r65_24_ok : dstOk 134 r65_24.toList = true ∧ r65_24.toList.all (fun o => noDefer o.op) = true := by decide +kernel
noncomputable def r65_25 : Array Oper := opsAt Tryd.f65 [1, 1, 0, 0, 0, 1, 1, 1, 1, 1, 1, 1, 1, 1, 1, 1, 1, 1, 0, 0]
theorem r65_25_ok : dstOk 134 r65_25.toList = true ∧ r65_25.toList.all (fun o => noDefer o.op) = true := by decide +kernel
noncomputable def r65_26 : Array Oper := opsAt Tryd.f65 [1, 1, 0, 0, 0, 1, 1, 1, 1, 1, 1, 1, 1, 1, 1, 1, 1, 1, 0, 1, 0]
theorem r65_26_ok : dstOk 134 r65_26.toList = true ∧ r65_26.toList.all (fun o => noDefer o.op) = true := by decide +kernel
noncomputable def r65_27 : Array Oper := opsAt Tryd.f65 [1, 1, 0, 0, 0, 1, 1, 1, 1, 1, 1, 1, 1, 1, 1, 1, 1, 1, 0, 1, 1]
theorem r65_27_ok : dstOk 134 r65_27.toList = true ∧ r65_27.toList.all (fun o => noDefer o.op) = true := by decide +kernel
noncomputable def r65_28 : Array Oper := opsAt Tryd.f65 [1, 1, 0, 0, 0, 1, 1, 1, 1, 1, 1, 1, 1, 1, 1, 1, 1, 1, 1, 0]
theorem r65_28_ok : dstOk 134 r65_28.toList = true ∧ r65_28.toList.all (fun o => noDefer o.op) = true := by decide +kernel
noncomputable def r65_29 : Array Oper := opsAt Tryd.f65 [1, 1, 0, 0, 0, 1, 1, 1, 1, 1, 1, 1, 1, 1, 1, 1, 1, 1, 1, 1, 0]
theorem r65_29_ok : dstOk 134 r65_29.toList = true ∧ r65_29.toList.all (fun o => noDefer o.op) = true := by decide +kernel
noncomputable def r65_30 : Array Oper := opsAt Tryd.f65 [1, 1, 0, 0, 0, 1, 1, 1, 1, 1, 1, 1, 1, 1, 1, 1, 1, 1, 1, 1, 1]
theorem r65_30_ok : dstOk 134 r65_30.toList = true ∧ r65_30.toList.all (fun o => noDefer o.op) = true := by decide +kernel
noncomputable def b65_0 : Code := (.block 1 (.seq (.region 2 r65_2 false) (.seq (.seq (.region 3 r65_3 false) (.cond (.tmp 23) (.seq (.region 4 r65_4 false) .ret) .skip)) (.seq (.seq (.region 5 r65_5 false) (.cond (.tmp 29) (.seq (.region 6 r65_6 false) .ret) .skip)) (.seq (.seq (.region 7 r65_7 false) (.cond (.tmp 35) (.seq (.region 8 r65_8 false) (.region 9 r65_9 false)) .skip)) (.seq (.region 10 r65_10 false) (.seq (.seq (.region 11 r65_11 false) (.cond (.tmp 50) (.seq (.region 12 r65_12 false) (.seq (.region 13 r65_13 false) (.region 14 r65_14 false))) .skip)) (.seq (.seq (.region 15 r65_15 false) (.cond (.tmp 68) (.seq (.region 16 r65_16 false) (.cond (.tmp 72) .ret .skip)) .skip)) (.seq (.seq (.region 17 r65_17 true) (.cond (.tmp 87) (.seq (.region 18 r65_18 false) (.seq (.region 19 r65_19 false) (.exit 1))) .skip)) (.seq (.region 20 r65_20 false) (.seq (.region 21 r65_21 false) (.seq (.region 22 r65_22 false) (.seq (.region 23 r65_23 false) (.seq (.region 24 r65_24 false) (.cond (.tmp 113) (.seq (.region 25 r65_25 false) (.seq (.region 26 r65_26 false) (.region 27 r65_27 false))) (.seq (.region 28 r65_28 false) (.seq (.region 29 r65_29 false) (.region 30 r65_30 false))))))))))))))))))
noncomputable def c65 : Code := (.seq (.region 0 r65_0 false) (.seq (.region 1 r65_1 false) (.block 0 (.loop b65_0))))
theorem body65 : Tryd.f65.body = some c65 := by kernel_rfl
theorem pdq_ok (b : Bool) (xs : List Int) (hl : xs.length ≤ 12) (hpw : xs.Pairwise (· < ·)) : PureCall Tryd.prog GL 65 [.sl 1 b (xs.map intAV), .raw (.int .i64 0), .raw (.int .i64 (xs.length : Int)), .any] (.tup []) := by
  refine pure_of_body Tryd.func65 body65 (Nat.le_of_ble_eq_true rfl) (by simp) (by simp) ?_
  refine w_keep [(0, .sl 1 b (xs.map intAV)), (1, .raw (.int .i64 0)), (2, .raw (.int .i64 (xs.length : Int))), (3, .any)] ⟨rfl, rfl, rfl, rfl, trivial⟩ ?_
  unfold c65
  refine awp_seq ?_
  refine w_reg (l := r65_0.toList) rfl r65_0_ok ?_
  refine a_op rfl (o_as rfl) ?_
  refine a_nil ?_
  refine tq_n ?_
  refine awp_seq ?_
  refine w_reg (l := r65_1.toList) rfl r65_1_ok ?_
  refine a_op rfl (o_as rfl) ?_
  refine a_nil ?_
  refine tq_n ?_
  refine awp_block ?_
  refine w_loop (fun _ : Unit => True) (fun _ => [(0, .sl 1 b (xs.map intAV)), (1, .raw (.int .i64 0)), (2, .raw (.int .i64 (xs.length : Int)))]) (fun _ => []) (fun _ => 0) (()) trivial ⟨(by first | exact sub_int rfl (by omega) | rfl), (by first | exact sub_int rfl (by omega) | rfl), (by first | exact sub_int rfl (by omega) | rfl), trivial⟩ rfl ?_
  intro _ _
  unfold b65_0
  refine awp_block ?_
  refine awp_seq ?_
  refine w_reg (l := r65_2.toList) rfl r65_2_ok ?_
  refine a_op rfl (o_mv rfl) ?_
  refine a_op rfl (o_mv rfl) ?_
  refine a_op rfl (o_sub rfl rfl (by simp only [klo, khi]; omega)) ?_
  refine a_op rfl (o_as rfl) ?_
  refine a_nil ?_
  refine tq_n ?_
  refine awp_seq ?_
  refine awp_seq ?_
  refine w_reg (l := r65_3.toList) rfl r65_3_ok ?_
  refine a_op rfl (o_mv rfl) ?_
  refine a_if rfl (o_le rfl rfl) (fun h1 => ?_) (fun h2 => ?_)
  · refine a_nil ?_
    refine tq_n ?_
    refine w_true rfl ?_
    refine awp_seq ?_
    refine w_reg (l := r65_4.toList) rfl r65_4_ok ?_
    refine a_op rfl (o_mv rfl) ?_
    refine a_op rfl (o_mv rfl) ?_
    refine a_op rfl (o_mv rfl) ?_
    refine a_pure rfl rfl rfl cb91 (insertion_ok _ _ (by omega) hpw) ?_
    refine a_nil ?_
    refine tq_n ?_
    refine awp_ret ?_
    refine tq_r ?_
    refine bq_r ?_
    refine tq_r ?_
    refine bq_r ?_
    refine r_none rfl trivial ?_
    exact rs_pur (by simp) rfl
  · omega
noncomputable def r36_0 : Array Oper := opsAt Tryd.f36 [0]
theorem r36_0_ok : dstOk 11 r36_0.toList = true ∧ r36_0.toList.all (fun o => noDefer o.op) = true := by decide +kernel
noncomputable def r36_1 : Array Oper := opsAt Tryd.f36 [1]
theorem r36_1_ok : dstOk 11 r36_1.toList = true ∧ r36_1.toList.all (fun o => noDefer o.op) = true := by decide +kernel
noncomputable def c36 : Code := (.seq (.region 0 r36_0 false) (.region 1 r36_1 false))
theorem body36 : Tryd.f36.body = some c36 := by kernel_rfl
theorem sort_ok (b : Bool) (xs : List Int) (hl : xs.length ≤ 12) (hpw : xs.Pairwise (· < ·)) : PureCall Tryd.prog GL 36 [.sl 1 b (xs.map intAV)] (.tup []) := by
  refine pure_of_body Tryd.func36 body36 (Nat.le_of_ble_eq_true rfl) (by simp) (by simp) ?_
  refine w_keep [(0, .sl 1 b (xs.map intAV))] ⟨rfl, trivial⟩ ?_
  unfold c36
  refine awp_seq ?_
  refine w_reg (l := r36_0.toList) rfl r36_0_ok ?_
  refine a_op rfl (o_mv rfl) ?_
  refine a_op rfl (o_len rfl rfl (by first | exact List.length_map .. | rfl) tl34) ?_
  refine a_op rfl (o_as rfl) ?_
  refine a_nil ?_
  refine tq_n ?_
  refine w_reg (l := r36_1.toList) rfl r36_1_ok ?_
  refine a_op rfl (o_mv rfl) ?_
  refine a_op rfl (o_mv rfl) ?_
  refine a_op rfl (o_mv rfl) ?_
  refine a_op rfl (o_cv tk3 tk109 rfl (by simp only [klo, khi]; omega)) ?_
  refine a_pure rfl rfl rfl cb66 (bitlen_ok _ (by omega) (by omega)) ?_
  refine a_pure rfl rfl rfl cb65 (pdq_ok _ _ (by omega) hpw) ?_
  refine a_nil ?_
  refine r_norm ?_
  refine r_none rfl trivial ?_
  exact rs_pur (by simp) rfl
noncomputable def r37_0 : Array Oper := opsAt Tryd.f37 [0]
theorem r37_0_ok : dstOk 61 r37_0.toList = true ∧ r37_0.toList.all (fun o => noDefer o.op) = true := by decide +kernel
noncomputable def r37_1 : Array Oper := opsAt Tryd.f37 [1, 0, 0]
theorem r37_1_ok : dstOk 61 r37_1.toList = true ∧ r37_1.toList.all (fun o => noDefer o.op) = true := by decide +kernel
noncomputable def r37_2 : Array Oper := opsAt Tryd.f37 [1, 0, 1, 0, 0]
theorem r37_2_ok : dstOk 61 r37_2.toList = true ∧ r37_2.toList.all (fun o => noDefer o.op) = true := by decide +kernel
noncomputable def r37_3 : Array Oper := opsAt Tryd.f37 [1, 1, 0, 0]
theorem r37_3_ok : dstOk 61 r37_3.toList = true ∧ r37_3.toList.all (fun o => noDefer o.op) = true := by decide +kernel
noncomputable def r37_4 : Array Oper := opsAt Tryd.f37 [1, 1, 0, 1, 0, 0, 0, 0]
theorem r37_4_ok : dstOk 61 r37_4.toList = true ∧ r37_4.toList.all (fun o => noDefer o.op) = true := by decide +kernel
noncomputable def r37_6 : Array Oper := opsAt Tryd.f37 [1, 1, 0, 1, 0, 0, 1, 0, 0, 0]
theorem r37_6_ok : dstOk 61 r37_6.toList = true ∧ r37_6.toList.all (fun o => noDefer o.op) = true := by decide +kernel
noncomputable def r37_7 : Array Oper := opsAt Tryd.f37 [1, 1, 0, 1, 0, 0, 1, 0, 0, 1, 0, 0]
theorem r37_7_ok : dstOk 61 r37_7.toList = true ∧ r37_7.toList.all (fun o => noDefer o.op) = true := by decide +kernel
noncomputable def r37_8 : Array Oper := opsAt Tryd.f37 [1, 1, 0, 1, 0, 0, 1, 0, 0, 1, 0, 1, 0, 0]
theorem r37_8_ok : dstOk 61 r37_8.toList = true ∧ r37_8.toList.all (fun o => noDefer o.op) = true := by decide +kernel
noncomputable def r37_9 : Array Oper := opsAt Tryd.f37 [1, 1, 0, 1, 0, 0, 1, 0, 0, 1, 0, 1, 0, 1, 0, 0, 0, 0]
theorem r37_9_ok : dstOk 61 r37_9.toList = true ∧ r37_9.toList.all (fun o => noDefer o.op) = true := by decide +kernel
noncomputable def r37_11 : Array Oper := opsAt Tryd.f37 [1, 1, 0, 1, 0, 0, 1, 0, 0, 1, 0, 1, 0, 1, 0, 0, 1, 0, 0, 0]
theorem r37_11_ok : dstOk 61 r37_11.toList = true ∧ r37_11.toList.all (fun o => noDefer o.op) = true := by decide +kernel
noncomputable def r37_12 : Array Oper := opsAt Tryd.f37 [1, 1, 0, 1, 0, 0, 1, 0, 0, 1, 0, 1, 0, 1, 0, 0, 1, 0, 0, 1, 0, 0]
theorem r37_12_ok : dstOk 61 r37_12.toList = true ∧ r37_12.toList.all (fun o => noDefer o.op) = true := by decide +kernel
noncomputable def r37_13 : Array Oper := opsAt Tryd.f37 [1, 1, 0, 1, 0, 0, 1, 0, 0, 1, 0, 1, 0, 1, 0, 0, 1, 0, 0, 1, 0, 1]
theorem r37_13_ok : dstOk 61 r37_13.toList = true ∧ r37_13.toList.all (fun o => noDefer o.op) = true := by decide +kernel
noncomputable def r37_10 : Array Oper := opsAt Tryd.f37 [1, 1, 0, 1, 0, 0, 1, 0, 0, 1, 0, 1, 0, 1, 0, 0, 1, 1]
theorem r37_10_ok : dstOk 61 r37_10.toList = true ∧ r37_10.toList.all (fun o => noDefer o.op) = true := by decide +kernel
noncomputable def b37_0 : Code := (.seq (.seq (.region 9 r37_9 false) (.cond (.tmp 32) .skip (.exit 2))) (.seq (.block 3 (.seq (.region 11 r37_11 true) (.cond (.tmp 44) (.seq (.region 12 r37_12 false) (.region 13 r37_13 false)) .skip))) (.region 10 r37_10 false)))
noncomputable def r37_14 : Array Oper := opsAt Tryd.f37 [1, 1, 0, 1, 0, 0, 1, 0, 0, 1, 0, 1, 1, 0]
theorem r37_14_ok : dstOk 61 r37_14.toList = true ∧ r37_14.toList.all (fun o => noDefer o.op) = true := by decide +kernel
noncomputable def r37_15 : Array Oper := opsAt Tryd.f37 [1, 1, 0, 1, 0, 0, 1, 0, 0, 1, 0, 1, 1, 1, 0]
theorem r37_15_ok : dstOk 61 r37_15.toList = true ∧ r37_15.toList.all (fun o => noDefer o.op) = true := by decide +kernel
noncomputable def r37_5 : Array Oper := opsAt Tryd.f37 [1, 1, 0, 1, 0, 0, 1, 1]
theorem r37_5_ok : dstOk 61 r37_5.toList = true ∧ r37_5.toList.all (fun o => noDefer o.op) = true := by decide +kernel
noncomputable def b37_1 : Code := (.seq (.seq (.region 4 r37_4 false) (.cond (.tmp 13) .skip (.exit 0))) (.seq (.block 1 (.seq (.region 6 r37_6 true) (.cond (.tmp 25) (.seq (.region 7 r37_7 false) (.seq (.seq (.region 8 r37_8 false) (.block 2 (.loop b37_0))) (.seq (.region 14 r37_14 false) (.seq (.region 15 r37_15 false) .ret)))) .skip))) (.region 5 r37_5 false)))
noncomputable def r37_16 : Array Oper := opsAt Tryd.f37 [1, 1, 1, 0]
theorem r37_16_ok : dstOk 61 r37_16.toList = true ∧ r37_16.toList.all (fun o => noDefer o.op) = true := by decide +kernel
noncomputable def c37 : Code := (.seq (.region 0 r37_0 false) (.seq (.seq (.region 1 r37_1 false) (.cond (.tmp 8) (.seq (.region 2 r37_2 false) .ret) .skip)) (.seq (.seq (.region 3 r37_3 false) (.block 0 (.loop b37_1))) (.seq (.region 16 r37_16 false) .ret))))
theorem body37 : Tryd.f37.body = some c37 := by kernel_rfl
theorem compact_ok (b : Bool) (xs : List Int) (hl : xs.length ≤ 4611686018427387904) (hpw : xs.Pairwise (· < ·)) : PureCall Tryd.prog GL 37 [.sl 1 b (xs.map intAV)] (.sl 1 b (xs.map intAV)) := by
  refine pure_of_body Tryd.func37 body37 (Nat.le_of_ble_eq_true rfl) (by simp) (by simp) ?_
  refine w_keep [(0, .sl 1 b (xs.map intAV))] ⟨rfl, trivial⟩ ?_
  unfold c37
  refine awp_seq ?_
  refine w_reg (l := r37_0.toList) rfl r37_0_ok ?_
  refine a_op rfl (o_as rfl) ?_
  refine a_nil ?_
  refine tq_n ?_
  refine awp_seq ?_
  refine awp_seq ?_
  refine w_reg (l := r37_1.toList) rfl r37_1_ok ?_
  refine a_op rfl (o_mv rfl) ?_
  refine a_op rfl (o_len rfl rfl (by first | exact List.length_map .. | rfl) tl34) ?_
  refine a_if rfl (o_lt rfl rfl) (fun h1 => ?_) (fun h2 => ?_)
  · refine a_nil ?_
    refine tq_n ?_
    refine w_true rfl ?_
    refine awp_seq ?_
    refine w_reg (l := r37_2.toList) rfl r37_2_ok ?_
    refine a_op rfl (o_mv rfl) ?_
    refine a_op rfl (o_as rfl) ?_
    refine a_nil ?_
    refine tq_n ?_
    refine awp_ret ?_
    refine tq_r ?_
    refine r_one rfl ⟨rfl, trivial⟩ ?_
    exact rs_pur (by simp) rfl
  · refine a_nil ?_
    refine tq_n ?_
    refine w_false rfl ?_
    refine awp_skip ?_
    refine tq_n ?_
    refine awp_seq ?_
    refine awp_seq ?_
    refine w_reg (l := r37_3.toList) rfl r37_3_ok ?_
    refine a_op rfl (o_as rfl) ?_
    refine a_nil ?_
    refine tq_n ?_
    refine awp_block ?_
    refine w_loop (fun i : Nat => 1 ≤ i) (fun i => [(0, .sl 1 b (xs.map intAV)), (3, .raw (.int .i64 (i : Int)))]) (fun _ => []) (fun i => xs.length - i) (1) (by omega) ⟨(by first | exact sub_int rfl (by omega) | rfl), (by first | exact sub_int rfl (by omega) | rfl), trivial⟩ rfl ?_
    intro i hp1
    unfold b37_1
    refine awp_seq ?_
    refine awp_seq ?_
    refine w_reg (l := r37_4.toList) rfl r37_4_ok ?_
    refine a_op rfl (o_mv rfl) ?_
    refine a_op rfl (o_mv rfl) ?_
    refine a_op rfl (o_len rfl rfl (by first | exact List.length_map .. | rfl) tl34) ?_
    refine a_if rfl (o_lt rfl rfl) (fun h3 => ?_) (fun h4 => ?_)
    · refine a_nil ?_
      refine tq_n ?_
      refine w_true rfl ?_
      refine awp_skip ?_
      refine tq_n ?_
      refine awp_seq ?_
      refine awp_block ?_
      refine awp_seq ?_
      have hb1 : i < xs.length := by omega
      have hb2 : i - 1 < xs.length := by omega
      refine awp_draw ⟨[[], [], [0, 1], [0, 1, 2], [], [], [5], [4, 5, 6], [4, 5, 6, 7], [0, 1, 2, 3, 4, 5, 6, 7, 8]], [[0], [3], [16, 17], [18], [0], [3], [21], [20, 22], [23], [19, 24]], [[], [], [], [], [], [], [], [], [], []], [none, none, none, none, none, none, none, none, none, none]⟩ mo r37_6_ok (by decide +kernel) (l := r37_6.toList) rfl ?_
      refine d_op rfl rfl rfl (fun _ => o_mv rfl) ?_
      refine d_op rfl rfl rfl (fun _ => o_mv rfl) ?_
      refine d_op rfl rfl rfl (fun _ => o_ix te34 tn3 rfl rfl rfl (ixm _ _ _ hb1)) ?_
      refine d_op rfl rfl rfl (fun _ => (by first | exact o_ld tg3 rfl rfl | exact o_ldp tg3 rfl rfl rfl rfl)) ?_
      refine d_op rfl rfl rfl (fun _ => o_mv rfl) ?_
      refine d_op rfl rfl rfl (fun _ => o_mv rfl) ?_
      refine d_op rfl rfl rfl (fun _ => o_sub rfl rfl (by simp only [klo, khi]; omega)) ?_
      refine d_op rfl rfl rfl (fun _ => o_ix te34 tn3 rfl rfl (j := i - 1) (by omega) (ixm _ _ _ hb2)) ?_
      refine d_op rfl rfl rfl (fun _ => (by first | exact o_ld tg3 rfl rfl | exact o_ldp tg3 rfl rfl rfl rfl)) ?_
      refine d_if rfl rfl rfl (fun _ => o_eq rfl rfl) (fun h5 => ?_) (fun h6 => ?_)
      · exact absurd h5 (by have := srt hpw (i := i - 1) (j := i) (by omega) (by omega); omega)
      · refine d_nil ?_
        refine tq_n ?_
        refine w_false rfl ?_
        refine awp_skip ?_
        refine bq_n ?_
        refine tq_n ?_
        refine w_reg (l := r37_5.toList) rfl r37_5_ok ?_
        refine a_op rfl (o_mv rfl) ?_
        refine a_op rfl (o_add rfl rfl (by simp only [klo, khi]; omega)) ?_
        refine a_op rfl (o_as rfl) ?_
        refine a_nil ?_
        refine tq_n ?_
        exact ⟨i + 1, ⟨by omega, by omega⟩, ⟨(by first | exact sub_int rfl (by omega) | rfl), (by first | exact sub_int rfl (by omega) | rfl), trivial⟩, rfl⟩
    · refine a_nil ?_
      refine tq_n ?_
      refine w_false rfl ?_
      refine awp_exit ?_
      refine tq_x ?_
      refine tq_x ?_
      refine bq_hit ?_
      refine tq_n ?_
      refine awp_seq ?_
      refine w_reg (l := r37_16.toList) rfl r37_16_ok ?_
      refine a_op rfl (o_mv rfl) ?_
      refine a_op rfl (o_as rfl) ?_
      refine a_nil ?_
      refine tq_n ?_
      refine awp_ret ?_
      refine r_one rfl ⟨rfl, trivial⟩ ?_
      exact rs_pur (by simp) rfl

def opB (pts : List PtR) (rules : List RuleR) (hol : List Int) (day : Int) (p : PtR) : Bool := decide (statF ((findP pts p.id).getD zeroPt) rules hol day = 1)
def opL (pts : List PtR) (rules : List RuleR) (hol : List Int) (day : Int) (i : Nat) : List Int := ((pts.take i).filter (opB pts rules hol day)).map (·.id)
def opF (pts : List PtR) (rules : List RuleR) (hol : List Int) (day : Int) : List Int := (pts.filter (opB pts rules hol day)).map (·.id)
theorem opL_succ {pts : List PtR} {rules : List RuleR} {hol : List Int} {day : Int} {i : Nat} (h : i < pts.length) : opL pts rules hol day (i + 1) = opL pts rules hol day i ++ if statF ((findP pts pts[i].id).getD zeroPt) rules hol day = 1 then [pts[i].id] else [] := by
  unfold opL; rw [List.take_succ_eq_append_getElem h, List.filter_append]
  by_cases h2 : statF ((findP pts pts[i].id).getD zeroPt) rules hol day = 1 <;> simp [opB, h2]
theorem opL_bd (pts : List PtR) (rules : List RuleR) (hol : List Int) (day : Int) (i : Nat) : (opL pts rules hol day i).length ≤ i := by
  have h1 := List.length_filter_le (opB pts rules hol day) (pts.take i); have h2 := List.length_take_le i pts
  unfold opL; rw [List.length_map]; omega
theorem opL_pw {pts : List PtR} {rules : List RuleR} {hol : List Int} {day : Int} {i : Nat} (h : (pts.map (·.id)).Pairwise (· < ·)) : (opL pts rules hol day i).Pairwise (· < ·) := by
  refine h.sublist ?_
  unfold opL
  exact (List.Sublist.map _ (List.filter_sublist.trans (List.take_sublist i pts)))
def opAV (pts : List PtR) (rules : List RuleR) (hol : List Int) (day : Int) : AV := if wrF hol day ≠ 0 then .raw (.slice none 0 0) else .sl 1 false ((opF pts rules hol day).map intAV)
@[simp] theorem pur_op (pts : List PtR) (rules : List RuleR) (hol : List Int) (day : Int) : Pur (opAV pts rules hol day) ↔ True := by unfold opAV; split <;> simp

noncomputable def r18_0 : Array Oper := opsAt Tryd.f18 [0]
theorem r18_0_ok : dstOk 52 r18_0.toList = true ∧ r18_0.toList.all (fun o => noDefer o.op) = true := by decide +kernel
noncomputable def r18_1 : Array Oper := opsAt Tryd.f18 [1, 0, 0]
theorem r18_1_ok : dstOk 52 r18_1.toList = true ∧ r18_1.toList.all (fun o => noDefer o.op) = true := by decide +kernel
noncomputable def r18_2 : Array Oper := opsAt Tryd.f18 [1, 0, 1, 0]
theorem r18_2_ok : dstOk 52 r18_2.toList = true ∧ r18_2.toList.all (fun o => noDefer o.op) = true := by decide +kernel
noncomputable def r18_3 : Array Oper := opsAt Tryd.f18 [1, 0, 1, 1, 0, 0]
theorem r18_3_ok : dstOk 52 r18_3.toList = true ∧ r18_3.toList.all (fun o => noDefer o.op) = true := by decide +kernel
noncomputable def r18_4 : Array Oper := opsAt Tryd.f18 [1, 1, 0]
theorem r18_4_ok : dstOk 52 r18_4.toList = true ∧ r18_4.toList.all (fun o => noDefer o.op) = true := by decide +kernel
noncomputable def r18_5 : Array Oper := opsAt Tryd.f18 [1, 1, 1, 0, 0]
theorem r18_5_ok : dstOk 52 r18_5.toList = true ∧ r18_5.toList.all (fun o => noDefer o.op) = true := by decide +kernel
noncomputable def r18_6 : Array Oper := opsAt Tryd.f18 [1, 1, 1, 0, 1, 0, 0, 0]
theorem r18_6_ok : dstOk 52 r18_6.toList = true ∧ r18_6.toList.all (fun o => noDefer o.op) = true := by decide +kernel
noncomputable def r18_7 : Array Oper := opsAt Tryd.f18 [1, 1, 1, 0, 1, 0, 0, 1, 1, 0, 0, 0]
theorem r18_7_ok : dstOk 52 r18_7.toList = true ∧ r18_7.toList.all (fun o => noDefer o.op) = true := by decide +kernel
noncomputable def r18_8 : Array Oper := opsAt Tryd.f18 [1, 1, 1, 0, 1, 0, 0, 1, 1, 0, 0, 1, 0]
theorem r18_8_ok : dstOk 52 r18_8.toList = true ∧ r18_8.toList.all (fun o => noDefer o.op) = true := by decide +kernel
noncomputable def r18_9 : Array Oper := opsAt Tryd.f18 [1, 1, 1, 0, 1, 0, 0, 1, 1, 0, 0, 1, 1, 0]
theorem r18_9_ok : dstOk 52 r18_9.toList = true ∧ r18_9.toList.all (fun o => noDefer o.op) = true := by decide +kernel
noncomputable def r18_10 : Array Oper := opsAt Tryd.f18 [1, 1, 1, 0, 1, 0, 0, 1, 1, 0, 0, 1, 1, 1, 0]
theorem r18_10_ok : dstOk 52 r18_10.toList = true ∧ r18_10.toList.all (fun o => noDefer o.op) = true := by decide +kernel
noncomputable def r18_11 : Array Oper := opsAt Tryd.f18 [1, 1, 1, 0, 1, 0, 0, 1, 1, 1]
theorem r18_11_ok : dstOk 52 r18_11.toList = true ∧ r18_11.toList.all (fun o => noDefer o.op) = true := by decide +kernel
noncomputable def b18_0 : Code := (.seq (.region 6 r18_6 false) (.seq (.cond (.tmp 26) .skip (.exit 0)) (.seq (.block 1 (.seq (.region 7 r18_7 false) (.seq (.region 8 r18_8 false) (.seq (.region 9 r18_9 false) (.cond (.tmp 41) (.region 10 r18_10 false) .skip))))) (.region 11 r18_11 false))))
noncomputable def r18_12 : Array Oper := opsAt Tryd.f18 [1, 1, 1, 1, 0]
theorem r18_12_ok : dstOk 52 r18_12.toList = true ∧ r18_12.toList.all (fun o => noDefer o.op) = true := by decide +kernel
noncomputable def r18_13 : Array Oper := opsAt Tryd.f18 [1, 1, 1, 1, 1, 0]
theorem r18_13_ok : dstOk 52 r18_13.toList = true ∧ r18_13.toList.all (fun o => noDefer o.op) = true := by decide +kernel
noncomputable def c18 : Code := (.seq (.region 0 r18_0 false) (.seq (.seq (.region 1 r18_1 false) (.seq (.region 2 r18_2 false) (.cond (.tmp 20) (.seq (.region 3 r18_3 false) .ret) .skip))) (.seq (.region 4 r18_4 false) (.seq (.seq (.region 5 r18_5 false) (.block 0 (.loop b18_0))) (.seq (.region 12 r18_12 false) (.seq (.region 13 r18_13 false) .ret))))))
theorem body18 : Tryd.f18.body = some c18 := by kernel_rfl
theorem Open_ok (a1 a2 a3 : AV) (g1 : Cel a1) (g2 : Cel a2) (g3 : Cel a3) (b : Bool) (pts : List PtR) (hl : pts.length ≤ 4611686018427387904) (b1 : Bool) (rules : List RuleR) (hl1 : rules.length ≤ 4611686018427387904) (hx1 : ∀ x ∈ rules, x.ok) (b2 : Bool) (hol : List Int) (hl2 : hol.length ≤ 4611686018427387904) (day : Int) (hpn : pts.length ≤ 12) (hpt : (pts.map (·.id)).Pairwise (· < ·)) : PureCall Tryd.prog GL 18 [refAV a1 a2 a3 b pts, .sl 5 b1 (rules.map ruleAV), .sl 1 b2 (hol.map intAV), .raw (.int .i64 day)] (.tup [opAV pts rules hol day, .raw (.int .i64 (wrF hol day))]) := by
  refine pure_of_body Tryd.func18 body18 (Nat.le_of_ble_eq_true rfl) (by simp [pur_ref g1 g2 g3]) (by simp) ?_
  refine w_keep [(0, refAV a1 a2 a3 b pts), (1, .sl 5 b1 (rules.map ruleAV)), (2, .sl 1 b2 (hol.map intAV)), (3, .raw (.int .i64 day))] ⟨rfl, rfl, rfl, rfl, trivial⟩ ?_
  unfold c18
  refine awp_seq ?_
  refine w_reg (l := r18_0.toList) rfl r18_0_ok ?_
  refine a_op rfl (o_box (N := 0) rfl (by first | exact ref_good g1 g2 g3 | rfl) rfl rfl) ?_
  refine a_op rfl (o_as rfl) ?_
  refine a_op rfl (o_as rfl) ?_
  refine a_nil ?_
  refine tq_n ?_
  refine awp_seq ?_
  refine awp_seq ?_
  refine w_reg (l := r18_1.toList) rfl r18_1_ok ?_
  refine a_op rfl (o_mv rfl) ?_
  refine a_op rfl (o_mv rfl) ?_
  refine a_pure rfl rfl rfl cb33 (wrong_ok _ _ (by omega) _) ?_
  refine a_op rfl (o_as rfl) ?_
  refine a_nil ?_
  refine tq_n ?_
  refine awp_seq ?_
  refine w_reg (l := r18_2.toList) rfl r18_2_ok ?_
  refine a_op rfl (o_mv rfl) ?_
  refine a_if rfl (o_ne rfl rfl) (fun h1 => ?_) (fun h2 => ?_)
  · refine a_nil ?_
    refine tq_n ?_
    refine w_true rfl ?_
    refine awp_seq ?_
    refine w_reg (l := r18_3.toList) rfl r18_3_ok ?_
    refine a_op rfl (o_mv rfl) ?_
    refine a_op rfl (o_as rfl) ?_
    refine a_op rfl (o_as rfl) ?_
    refine a_nil ?_
    refine tq_n ?_
    refine awp_ret ?_
    refine tq_r ?_
    refine r_tup (xs := []) rfl ⟨rfl, rfl, trivial⟩ ?_
    exact rs_tup ⟨rs_pur (by simp) (by simp [opAV, *]), rs_int (by first | rfl | omega), trivial⟩
  · refine a_nil ?_
    refine tq_n ?_
    refine w_false rfl ?_
    refine awp_skip ?_
    refine tq_n ?_
    refine awp_seq ?_
    refine w_reg (l := r18_4.toList) rfl r18_4_ok ?_
    refine a_op rfl (o_as rfl) ?_
    refine a_nil ?_
    refine tq_n ?_
    refine awp_seq ?_
    refine awp_seq ?_
    refine w_own (q := 11) (z := 1) (N := 1) (by decide) rfl rfl rfl ?_
    have hpw := wrF_pw (hol := hol) (day := day) (by assumption)
    refine w_reg (l := r18_5.toList) rfl r18_5_ok ?_
    refine a_op rfl ((by first | exact o_fa tf30_3 rfl rfl | exact o_fap tf30_3 rfl rfl)) ?_
    refine a_op rfl ((by first | exact o_ld tg28 rfl rfl | exact o_ldp tg28 rfl rfl rfl rfl)) ?_
    refine a_op rfl (o_len rfl rfl (by first | exact List.length_map .. | rfl) tl28) ?_
    refine a_op rfl (o_mv rfl) ?_
    refine a_nil ?_
    refine tq_n ?_
    refine awp_block ?_
    refine w_loop (fun i : Nat => i ≤ pts.length) (fun i => [(1, .sl 5 b1 (rules.map ruleAV)), (2, .sl 1 b2 (hol.map intAV)), (3, .raw (.int .i64 day)), (4, .ptr 0 0), (11, .slo 1 ((opL pts rules hol day i).length) 0 ((opL pts rules hol day i).length)), (23, .sl 8 b (pts.map ptAV)), (24, .raw (.int .i64 (pts.length : Int))), (25, .raw (.int .i64 (i : Int)))]) (fun i => [.var [a1, a2, a3, .sl 8 b (pts.map ptAV)], .vec 1 ((opL pts rules hol day i).length) ((opL pts rules hol day i).map intAV)]) (fun i => pts.length - i) (0) (by simp) ⟨(by first | exact sub_int rfl (by omega) | rfl | exact sub_eq rfl (by rw [opL_succ (by omega)]; simp [*])), (by first | exact sub_int rfl (by omega) | rfl | exact sub_eq rfl (by rw [opL_succ (by omega)]; simp [*])), (by first | exact sub_int rfl (by omega) | rfl | exact sub_eq rfl (by rw [opL_succ (by omega)]; simp [*])), (by first | exact sub_int rfl (by omega) | rfl | exact sub_eq rfl (by rw [opL_succ (by omega)]; simp [*])), (by first | exact sub_int rfl (by omega) | rfl | exact sub_eq rfl (by rw [opL_succ (by omega)]; simp [*])), (by first | exact sub_int rfl (by omega) | rfl | exact sub_eq rfl (by rw [opL_succ (by omega)]; simp [*])), (by first | exact sub_int rfl (by omega) | rfl | exact sub_eq rfl (by rw [opL_succ (by omega)]; simp [*])), (by first | exact sub_int rfl (by omega) | rfl | exact sub_eq rfl (by rw [opL_succ (by omega)]; simp [*])), trivial⟩ rfl ?_
    intro i hp
    have hoL := opL_bd pts rules hol day i
    unfold b18_0
    refine awp_seq ?_
    refine w_reg (l := r18_6.toList) rfl r18_6_ok ?_
    refine a_if rfl (o_lt rfl rfl) (fun h3 => ?_) (fun h4 => ?_)
    · refine a_nil ?_
      refine tq_n ?_
      refine awp_seq ?_
      refine w_true rfl ?_
      refine awp_skip ?_
      refine tq_n ?_
      refine awp_seq ?_
      refine awp_block ?_
      refine awp_seq ?_
      have hi : i < pts.length := by omega
      refine w_reg (l := r18_7.toList) rfl r18_7_ok ?_
      refine a_op rfl (o_ix te28 tn39 rfl rfl rfl (ixm _ _ _ (by omega))) ?_
      refine a_op rfl ((by first | exact o_ldg tg39 tn39 rfl rfl | exact o_ldpg tg39 tn39 rfl rfl rfl rfl)) ?_
      refine a_op rfl (o_al (N := 2) tz39 rfl rfl rfl) ?_
      refine a_op0 rfl (o_st (N := 7) tn39 rfl rfl rfl rfl rfl) ?_
      refine a_nil ?_
      refine tq_n ?_
      refine awp_seq ?_
      refine w_reg (l := r18_8.toList) rfl r18_8_ok ?_
      refine a_op rfl ((by first | exact o_ldg tg30 tn30 rfl rfl | exact o_ldpg tg30 tn30 rfl rfl rfl rfl)) ?_
      refine a_op rfl ((by first | exact o_fa tf39_0 rfl rfl | exact o_fap tf39_0 rfl rfl)) ?_
      refine a_op rfl ((by first | exact o_ld tg3 rfl rfl | exact o_ldp tg3 rfl rfl rfl rfl)) ?_
      refine a_pure rfl rfl rfl cb34 (point_ok _ _ _ g1 g2 g3 _ _ (by omega) _) ?_
      refine a_op rfl (o_mv rfl) ?_
      refine a_op rfl (o_ex rfl rfl) ?_
      refine a_op rfl (o_ex rfl rfl) ?_
      refine a_op rfl (o_al (N := 3) tz39 rfl rfl rfl) ?_
      refine a_op0 rfl (o_st (N := 7) tn39 rfl rfl rfl rfl rfl) ?_
      refine a_op rfl (o_as rfl) ?_
      refine a_nil ?_
      refine tq_n ?_
      refine awp_seq ?_
      refine w_reg (l := r18_9.toList) rfl r18_9_ok ?_
      refine a_op rfl ((by first | exact o_ldg tg39 tn39 rfl rfl | exact o_ldpg tg39 tn39 rfl rfl rfl rfl)) ?_
      refine a_op rfl (o_mv rfl) ?_
      refine a_op rfl (o_mv rfl) ?_
      refine a_op rfl (o_mv rfl) ?_
      refine a_pure rfl rfl rfl cb35 (stat_ok _ _ _ (by omega) hx1 _ _ (by omega) hpw _) ?_
      refine a_if rfl (o_eq rfl rfl) (fun h5 => ?_) (fun h6 => ?_)
      · refine a_nil ?_
        refine tq_n ?_
        refine w_true rfl ?_
        refine w_reg (l := r18_10.toList) rfl r18_10_ok ?_
        refine a_op rfl (o_mv rfl) ?_
        refine a_op rfl ((by first | exact o_fa tf39_0 rfl rfl | exact o_fap tf39_0 rfl rfl)) ?_
        refine a_op rfl ((by first | exact o_ld tg3 rfl rfl | exact o_ldp tg3 rfl rfl rfl rfl)) ?_
        refine a_op rfl (o_bs tE34 (by decide) rfl rfl rfl) ?_
        refine a_op rfl (o_ap tE34 rfl rfl (by simp) rfl rfl rfl (by simp; omega) (by simp; omega) rfl rfl rfl rfl) ?_
        refine a_op rfl (o_as rfl) ?_
        refine a_nil ?_
        refine bq_n ?_
        refine tq_n ?_
        refine w_view [(1, .sl 5 b1 (rules.map ruleAV)), (2, .sl 1 b2 (hol.map intAV)), (3, .raw (.int .i64 day)), (4, .ptr 0 0), (11, .slo 1 ((opL pts rules hol day i).length + 1) 0 ((opL pts rules hol day i).length + 1)), (23, .sl 8 b (pts.map ptAV)), (24, .raw (.int .i64 (pts.length : Int))), (25, .raw (.int .i64 (i : Int)))] [.var [a1, a2, a3, .sl 8 b (pts.map ptAV)], .vec 1 ((opL pts rules hol day i).length + 1) ((opL pts rules hol day i).map intAV ++ [.raw (.int .i64 (pts[i]'hi).id)])] 2 rfl (Nat.le_of_ble_eq_true rfl) (Nat.le_of_ble_eq_true rfl) ⟨⟨_, rfl, (by first | exact .sloK (Nat.le_of_ble_eq_true rfl) | exact .ptrK (Nat.le_of_ble_eq_true rfl) | exact rs_pur (by simp) rfl)⟩, ⟨_, rfl, (by first | exact .sloK (Nat.le_of_ble_eq_true rfl) | exact .ptrK (Nat.le_of_ble_eq_true rfl) | exact rs_pur (by simp) rfl)⟩, ⟨_, rfl, (by first | exact .sloK (Nat.le_of_ble_eq_true rfl) | exact .ptrK (Nat.le_of_ble_eq_true rfl) | exact rs_pur (by simp) rfl)⟩, ⟨_, rfl, (by first | exact .sloK (Nat.le_of_ble_eq_true rfl) | exact .ptrK (Nat.le_of_ble_eq_true rfl) | exact rs_pur (by simp) rfl)⟩, ⟨_, rfl, (by first | exact .sloK (Nat.le_of_ble_eq_true rfl) | exact .ptrK (Nat.le_of_ble_eq_true rfl) | exact rs_pur (by simp) rfl)⟩, ⟨_, rfl, (by first | exact .sloK (Nat.le_of_ble_eq_true rfl) | exact .ptrK (Nat.le_of_ble_eq_true rfl) | exact rs_pur (by simp) rfl)⟩, ⟨_, rfl, (by first | exact .sloK (Nat.le_of_ble_eq_true rfl) | exact .ptrK (Nat.le_of_ble_eq_true rfl) | exact rs_pur (by simp) rfl)⟩, ⟨_, rfl, (by first | exact .sloK (Nat.le_of_ble_eq_true rfl) | exact .ptrK (Nat.le_of_ble_eq_true rfl) | exact rs_pur (by simp) rfl)⟩, trivial⟩ ⟨ors_var ⟨rs_pur g1.1 rfl, rs_pur g2.1 rfl, rs_pur g3.1 rfl, rs_pur (by simp) rfl, trivial⟩, ors_vec (by first | (simp; done) | (rintro x hx; simp at hx; rcases hx with ⟨a, _, rfl⟩ | rfl <;> simp)), trivial⟩ ?_
        refine w_reg (l := r18_11.toList) rfl r18_11_ok ?_
        refine a_op rfl (o_add rfl rfl (by simp only [klo, khi]; omega)) ?_
        refine a_op rfl (o_mv rfl) ?_
        refine a_nil ?_
        refine tq_n ?_
        exact ⟨i + 1, ⟨by omega, by omega⟩, ⟨(by first | exact sub_int rfl (by omega) | rfl | exact sub_eq rfl (by rw [opL_succ (by omega)]; simp [*])), (by first | exact sub_int rfl (by omega) | rfl | exact sub_eq rfl (by rw [opL_succ (by omega)]; simp [*])), (by first | exact sub_int rfl (by omega) | rfl | exact sub_eq rfl (by rw [opL_succ (by omega)]; simp [*])), (by first | exact sub_int rfl (by omega) | rfl | exact sub_eq rfl (by rw [opL_succ (by omega)]; simp [*])), (by first | exact sub_int rfl (by omega) | rfl | exact sub_eq rfl (by rw [opL_succ (by omega)]; simp [*])), (by first | exact sub_int rfl (by omega) | rfl | exact sub_eq rfl (by rw [opL_succ (by omega)]; simp [*])), (by first | exact sub_int rfl (by omega) | rfl | exact sub_eq rfl (by rw [opL_succ (by omega)]; simp [*])), (by first | exact sub_int rfl (by omega) | rfl | exact sub_eq rfl (by rw [opL_succ (by omega)]; simp [*])), trivial⟩, by rw [opL_succ (by omega)]; simp [intAV, *]⟩
      · refine a_nil ?_
        refine tq_n ?_
        refine w_false rfl ?_
        refine awp_skip ?_
        refine bq_n ?_
        refine tq_n ?_
        refine w_view [(1, .sl 5 b1 (rules.map ruleAV)), (2, .sl 1 b2 (hol.map intAV)), (3, .raw (.int .i64 day)), (4, .ptr 0 0), (11, .slo 1 ((opL pts rules hol day i).length) 0 ((opL pts rules hol day i).length)), (23, .sl 8 b (pts.map ptAV)), (24, .raw (.int .i64 (pts.length : Int))), (25, .raw (.int .i64 (i : Int)))] [.var [a1, a2, a3, .sl 8 b (pts.map ptAV)], .vec 1 ((opL pts rules hol day i).length) ((opL pts rules hol day i).map intAV)] 2 rfl (Nat.le_of_ble_eq_true rfl) (Nat.le_of_ble_eq_true rfl) ⟨⟨_, rfl, (by first | exact .sloK (Nat.le_of_ble_eq_true rfl) | exact .ptrK (Nat.le_of_ble_eq_true rfl) | exact rs_pur (by simp) rfl)⟩, ⟨_, rfl, (by first | exact .sloK (Nat.le_of_ble_eq_true rfl) | exact .ptrK (Nat.le_of_ble_eq_true rfl) | exact rs_pur (by simp) rfl)⟩, ⟨_, rfl, (by first | exact .sloK (Nat.le_of_ble_eq_true rfl) | exact .ptrK (Nat.le_of_ble_eq_true rfl) | exact rs_pur (by simp) rfl)⟩, ⟨_, rfl, (by first | exact .sloK (Nat.le_of_ble_eq_true rfl) | exact .ptrK (Nat.le_of_ble_eq_true rfl) | exact rs_pur (by simp) rfl)⟩, ⟨_, rfl, (by first | exact .sloK (Nat.le_of_ble_eq_true rfl) | exact .ptrK (Nat.le_of_ble_eq_true rfl) | exact rs_pur (by simp) rfl)⟩, ⟨_, rfl, (by first | exact .sloK (Nat.le_of_ble_eq_true rfl) | exact .ptrK (Nat.le_of_ble_eq_true rfl) | exact rs_pur (by simp) rfl)⟩, ⟨_, rfl, (by first | exact .sloK (Nat.le_of_ble_eq_true rfl) | exact .ptrK (Nat.le_of_ble_eq_true rfl) | exact rs_pur (by simp) rfl)⟩, ⟨_, rfl, (by first | exact .sloK (Nat.le_of_ble_eq_true rfl) | exact .ptrK (Nat.le_of_ble_eq_true rfl) | exact rs_pur (by simp) rfl)⟩, trivial⟩ ⟨ors_var ⟨rs_pur g1.1 rfl, rs_pur g2.1 rfl, rs_pur g3.1 rfl, rs_pur (by simp) rfl, trivial⟩, ors_vec (by first | (simp; done) | (rintro x hx; simp at hx; rcases hx with ⟨a, _, rfl⟩ | rfl <;> simp)), trivial⟩ ?_
        refine w_reg (l := r18_11.toList) rfl r18_11_ok ?_
        refine a_op rfl (o_add rfl rfl (by simp only [klo, khi]; omega)) ?_
        refine a_op rfl (o_mv rfl) ?_
        refine a_nil ?_
        refine tq_n ?_
        exact ⟨i + 1, ⟨by omega, by omega⟩, ⟨(by first | exact sub_int rfl (by omega) | rfl | exact sub_eq rfl (by rw [opL_succ (by omega)]; simp [*])), (by first | exact sub_int rfl (by omega) | rfl | exact sub_eq rfl (by rw [opL_succ (by omega)]; simp [*])), (by first | exact sub_int rfl (by omega) | rfl | exact sub_eq rfl (by rw [opL_succ (by omega)]; simp [*])), (by first | exact sub_int rfl (by omega) | rfl | exact sub_eq rfl (by rw [opL_succ (by omega)]; simp [*])), (by first | exact sub_int rfl (by omega) | rfl | exact sub_eq rfl (by rw [opL_succ (by omega)]; simp [*])), (by first | exact sub_int rfl (by omega) | rfl | exact sub_eq rfl (by rw [opL_succ (by omega)]; simp [*])), (by first | exact sub_int rfl (by omega) | rfl | exact sub_eq rfl (by rw [opL_succ (by omega)]; simp [*])), (by first | exact sub_int rfl (by omega) | rfl | exact sub_eq rfl (by rw [opL_succ (by omega)]; simp [*])), trivial⟩, by rw [opL_succ (by omega)]; simp [intAV, *]⟩
    · refine a_nil ?_
      refine tq_n ?_
      refine awp_seq ?_
      refine w_false rfl ?_
      refine awp_exit ?_
      refine tq_x ?_
      refine tq_x ?_
      refine bq_hit ?_
      refine tq_n ?_
      refine awp_seq ?_
      refine w_reg (l := r18_12.toList) rfl r18_12_ok ?_
      refine a_op rfl (o_mv rfl) ?_
      refine a_lend (vs' := [.sl 1 false ((opL pts rules hol day i).map intAV)]) rfl rfl rfl cb36 (sort_ok _ _ (by omega) (opL_pw hpt)) ⟨rs_slo id rfl (by simp) (by simp) rfl, trivial⟩ (by simp) ?_
      refine a_nil ?_
      refine tq_n ?_
      refine awp_seq ?_
      refine w_view [(11, .sl 1 false ((opL pts rules hol day i).map intAV))] [] 0 rfl (Nat.le_of_ble_eq_true rfl) (Nat.zero_le _) ⟨⟨_, rfl, rs_slo (Nat.not_lt_zero _) rfl (by simp) (by simp) rfl⟩, trivial⟩ trivial ?_
      refine w_reg (l := r18_13.toList) rfl r18_13_ok ?_
      refine a_op rfl (o_mv rfl) ?_
      refine a_pure rfl rfl rfl cb37 (compact_ok _ _ (by omega) (opL_pw hpt)) ?_
      refine a_op rfl (o_as rfl) ?_
      refine a_op rfl (o_as rfl) ?_
      refine a_nil ?_
      refine tq_n ?_
      refine awp_ret ?_
      refine r_tup (xs := []) rfl ⟨rfl, rfl, trivial⟩ ?_
      exact rs_tup ⟨rs_pur (by simp) (by rw [opAV, if_neg (by assumption), opF, opL, List.take_of_length_le (show pts.length ≤ i by omega)]), rs_int (by first | rfl | omega), trivial⟩
end Go.Ab.D
