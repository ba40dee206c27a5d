/- What functions of this program compute, and the laws of what they compute, under the bounds on lengths that each contract states. -/
import Derived.Test.YtghoaglolhdoeaaDoorD16
set_option linter.unusedSimpArgs false
set_option linter.unusedVariables false
namespace Go.Ab.D
open Go Go.Ab Go.Proofs
def longF (y m : Int) : Int := if m = 2 then (if leap y = true then 29 else 28) else if m = 4 ∨ m = 6 ∨ m = 9 ∨ m = 11 then 30 else 31
theorem long_fst (y m : Int) (h1 : 1 ≤ m) (h2 : m ≤ 12) : longF y m = fst y (m + 1) - fst y m := by
  obtain ⟨n, rfl⟩ : ∃ n : Nat, m = n := ⟨m.toNat, by omega⟩
  unfold fst longF
  match n, h1, h2 with
  | 1, _, _ | 2, _, _ | 3, _, _ | 4, _, _ | 5, _, _ | 6, _, _ | 7, _, _ | 8, _, _ | 9, _, _ | 10, _, _ | 11, _, _ | 12, _, _ => cases leap y <;> simp [ah]
  | n + 13, _, h => exact absurd h (by omega)
theorem long_bd (y m : Int) : 28 ≤ longF y m ∧ longF y m ≤ 31 := by unfold longF; repeat' split <;> omega
theorem dated_long {y m d : Int} (h1 : 1 ≤ m) (h2 : m ≤ 12) : dated y m d = decide (2001 ≤ y ∧ y ≤ 4000 ∧ 1 ≤ d ∧ d ≤ longF y m) := by
  rw [long_fst y m h1 h2]; unfold dated; congr 1; simp only [eq_iff_iff]; omega
theorem dayN_next (y k : Int) (hy : 2001 ≤ y) : dayN y k = dayN (y + 1) (k - 365 - if leap y = true then 1 else 0) := by
  have hl : (leap y = true ↔ (y % 4 = 0 ∧ (y % 100 ≠ 0 ∨ y % 400 = 0))) := by simp [leap]
  unfold dayN
  by_cases h : leap y = true
  · rw [if_pos h]; have := hl.1 h; omega
  · rw [if_neg h]; have := mt hl.2 h; omega
theorem dayN_k {y k : Int} (h1 : 2001 ≤ y) (h : dayN y k ≤ 730484) : k ≤ 730484 := by unfold dayN at h; omega
theorem rs_dec2 {H : Heap} {keep : Nat → Prop} {b c : Bool} (h : b = true ↔ c = true) : Rs H keep (.raw (.bool b)) (.raw (.bool c)) := by
  have : b = c := by cases b <;> cases c <;> simp_all
  rw [this]; exact .raw _
theorem dayN_le {y k : Int} (h1 : 2001 ≤ y) (h : dayN y k ≤ 730484) (hk : 0 ≤ k) : y ≤ 4000 := by unfold dayN at h; omega

noncomputable def r103_0 : Array Oper := opsAt Tryd.f103 [0]
theorem r103_0_ok : dstOk 16 r103_0.toList = true ∧ r103_0.toList.all (fun o => noDefer o.op) = true := by decide +kernel
noncomputable def r103_1 : Array Oper := opsAt Tryd.f103 [1, 0]
theorem r103_1_ok : dstOk 16 r103_1.toList = true ∧ r103_1.toList.all (fun o => noDefer o.op) = true := by decide +kernel
noncomputable def c103 : Code := (.seq (.region 0 r103_0 false) (.seq (.region 1 r103_1 false) .ret))
theorem body103 : Tryd.f103.body = some c103 := by kernel_rfl
theorem rleap_ok (y : Int) (hy : 0 ≤ y) : PureCall Tryd.prog GL 103 [.raw (.int .i64 y)] (.raw (.bool (leap y))) := by
  refine pure_of_body Tryd.func103 body103 (Nat.le_of_ble_eq_true rfl) (by simp) (by simp) ?_
  refine w_keep [(0, .raw (.int .i64 y))] ⟨rfl, trivial⟩ ?_
  unfold c103
  refine awp_seq ?_
  refine w_reg (l := r103_0.toList) rfl r103_0_ok ?_
  refine a_op rfl (o_as rfl) ?_
  refine a_nil ?_
  refine tq_n ?_
  refine awp_seq ?_
  refine w_reg (l := r103_1.toList) rfl r103_1_ok ?_
  refine a_op rfl (o_mv rfl) ?_
  refine a_op rfl (o_rem rfl rfl (by omega) (by omega)) ?_
  refine a_if rfl (o_eq rfl rfl) (fun h1 => ?_) (fun h2 => ?_)
  · refine a_op rfl (o_mv rfl) ?_
    refine a_off rfl ?_
    refine a_off rfl ?_
    refine a_off rfl ?_
    refine a_off rfl ?_
    refine a_off rfl ?_
    refine a_off rfl ?_
    refine a_off rfl ?_
    refine a_off rfl ?_
    refine a_op rfl (o_pkt rfl rfl) ?_
    refine a_op rfl (o_as rfl) ?_
    refine a_nil ?_
    refine tq_n ?_
    refine awp_ret ?_
    refine r_one rfl ⟨rfl, trivial⟩ ?_
    exact rs_dec2 (by simp only [leap, decide_eq_true_eq] <;> first | omega | (simp [*] <;> omega))
  refine a_op rfl (o_mv rfl) ?_
  refine a_op rfl (o_mv rfl) ?_
  refine a_op rfl (o_rem rfl rfl (by omega) (by omega)) ?_
  refine a_if rfl (o_eq rfl rfl) (fun h3 => ?_) (fun h4 => ?_)
  · refine a_op rfl (o_mv rfl) ?_
    refine a_op rfl (o_mv rfl) ?_
    refine a_op rfl (o_rem rfl rfl (by omega) (by omega)) ?_
    refine a_op rfl (o_ne rfl rfl) ?_
    refine a_op rfl (o_pkt rfl rfl) ?_
    refine a_op rfl (o_pkf rfl rfl) ?_
    refine a_op rfl (o_as rfl) ?_
    refine a_nil ?_
    refine tq_n ?_
    refine awp_ret ?_
    refine r_one rfl ⟨rfl, trivial⟩ ?_
    exact rs_dec2 (by simp only [leap, decide_eq_true_eq] <;> first | omega | (simp [*] <;> omega))
  refine a_op rfl (o_mv rfl) ?_
  refine a_off rfl ?_
  refine a_off rfl ?_
  refine a_off rfl ?_
  refine a_op rfl (o_pkf rfl rfl) ?_
  refine a_op rfl (o_pkf rfl rfl) ?_
  refine a_op rfl (o_as rfl) ?_
  refine a_nil ?_
  refine tq_n ?_
  refine awp_ret ?_
  refine r_one rfl ⟨rfl, trivial⟩ ?_
  exact rs_dec2 (by simp only [leap, decide_eq_true_eq] <;> first | omega | (simp [*] <;> omega))
noncomputable def r104_0 : Array Oper := opsAt Tryd.f104 [0]
theorem r104_0_ok : dstOk 15 r104_0.toList = true ∧ r104_0.toList.all (fun o => noDefer o.op) = true := by decide +kernel
noncomputable def r104_1 : Array Oper := opsAt Tryd.f104 [1, 0, 0]
theorem r104_1_ok : dstOk 15 r104_1.toList = true ∧ r104_1.toList.all (fun o => noDefer o.op) = true := by decide +kernel
noncomputable def r104_2 : Array Oper := opsAt Tryd.f104 [1, 0, 1, 0, 0]
theorem r104_2_ok : dstOk 15 r104_2.toList = true ∧ r104_2.toList.all (fun o => noDefer o.op) = true := by decide +kernel
noncomputable def r104_3 : Array Oper := opsAt Tryd.f104 [1, 0, 1, 0, 1, 0, 0, 0]
theorem r104_3_ok : dstOk 15 r104_3.toList = true ∧ r104_3.toList.all (fun o => noDefer o.op) = true := by decide +kernel
noncomputable def r104_4 : Array Oper := opsAt Tryd.f104 [1, 0, 1, 0, 1, 0, 0, 1, 0, 0]
theorem r104_4_ok : dstOk 15 r104_4.toList = true ∧ r104_4.toList.all (fun o => noDefer o.op) = true := by decide +kernel
noncomputable def r104_5 : Array Oper := opsAt Tryd.f104 [1, 0, 1, 0, 1, 0, 1, 0]
theorem r104_5_ok : dstOk 15 r104_5.toList = true ∧ r104_5.toList.all (fun o => noDefer o.op) = true := by decide +kernel
noncomputable def r104_6 : Array Oper := opsAt Tryd.f104 [1, 0, 1, 0, 1, 1, 0, 0]
theorem r104_6_ok : dstOk 15 r104_6.toList = true ∧ r104_6.toList.all (fun o => noDefer o.op) = true := by decide +kernel
noncomputable def r104_7 : Array Oper := opsAt Tryd.f104 [1, 0, 1, 0, 1, 1, 0, 1, 1, 0]
theorem r104_7_ok : dstOk 15 r104_7.toList = true ∧ r104_7.toList.all (fun o => noDefer o.op) = true := by decide +kernel
noncomputable def r104_8 : Array Oper := opsAt Tryd.f104 [1, 0, 1, 0, 1, 1, 0, 1, 1, 1, 1, 0]
theorem r104_8_ok : dstOk 15 r104_8.toList = true ∧ r104_8.toList.all (fun o => noDefer o.op) = true := by decide +kernel
noncomputable def r104_9 : Array Oper := opsAt Tryd.f104 [1, 0, 1, 0, 1, 1, 0, 1, 1, 1, 1, 1, 1]
theorem r104_9_ok : dstOk 15 r104_9.toList = true ∧ r104_9.toList.all (fun o => noDefer o.op) = true := by decide +kernel
noncomputable def r104_10 : Array Oper := opsAt Tryd.f104 [1, 0, 1, 0, 1, 1, 1, 0, 0]
theorem r104_10_ok : dstOk 15 r104_10.toList = true ∧ r104_10.toList.all (fun o => noDefer o.op) = true := by decide +kernel
noncomputable def r104_11 : Array Oper := opsAt Tryd.f104 [1, 1, 0]
theorem r104_11_ok : dstOk 15 r104_11.toList = true ∧ r104_11.toList.all (fun o => noDefer o.op) = true := by decide +kernel
noncomputable def c104 : Code := (.seq (.region 0 r104_0 false) (.seq (.seq (.region 1 r104_1 false) (.block 0 (.seq (.region 2 r104_2 false) (.cond (.tmp 6) (.seq (.seq (.region 3 r104_3 false) (.cond (.tmp 9) (.seq (.region 4 r104_4 false) .ret) .skip)) (.seq (.region 5 r104_5 false) .ret)) (.seq (.seq (.region 6 r104_6 false) (.cond (.tmp 10) .skip (.seq (.region 7 r104_7 false) (.cond (.tmp 10) .skip (.seq (.region 8 r104_8 false) (.cond (.tmp 10) .skip (.region 9 r104_9 false))))))) (.cond (.tmp 10) (.seq (.region 10 r104_10 false) .ret) .skip)))))) (.seq (.region 11 r104_11 false) .ret)))
theorem body104 : Tryd.f104.body = some c104 := by kernel_rfl
theorem long_ok (y m : Int) (hy : 0 ≤ y) : PureCall Tryd.prog GL 104 [.raw (.int .i64 y), .raw (.int .i64 m)] (.raw (.int .i64 (longF y m))) := by
  refine pure_of_body Tryd.func104 body104 (Nat.le_of_ble_eq_true rfl) (by simp) (by simp) ?_
  refine w_keep [(0, .raw (.int .i64 y)), (1, .raw (.int .i64 m))] ⟨rfl, rfl, trivial⟩ ?_
  unfold c104
  refine awp_seq ?_
  refine w_reg (l := r104_0.toList) rfl r104_0_ok ?_
  refine a_op rfl (o_as rfl) ?_
  refine a_nil ?_
  refine tq_n ?_
  refine awp_seq ?_
  refine awp_seq ?_
  refine w_reg (l := r104_1.toList) rfl r104_1_ok ?_
  refine a_op rfl (o_mv rfl) ?_
  refine a_nil ?_
  refine tq_n ?_
  refine awp_block ?_
  refine awp_seq ?_
  refine w_reg (l := r104_2.toList) rfl r104_2_ok ?_
  refine a_if rfl (o_eq rfl rfl) (fun h1 => ?_) (fun h2 => ?_)
  · refine a_op rfl (o_as rfl) ?_
    refine a_nil ?_
    refine tq_n ?_
    refine w_true rfl ?_
    refine awp_seq ?_
    refine awp_seq ?_
    refine w_reg (l := r104_3.toList) rfl r104_3_ok ?_
    refine a_op rfl (o_mv rfl) ?_
    refine a_pureb rfl rfl rfl cb103 (rleap_ok _ (by omega)) (fun h3 => ?_) (fun h4 => ?_)
    · refine a_nil ?_
      refine tq_n ?_
      refine w_true rfl ?_
      refine awp_seq ?_
      refine w_reg (l := r104_4.toList) rfl r104_4_ok ?_
      refine a_op rfl (o_as rfl) ?_
      refine a_nil ?_
      refine tq_n ?_
      refine awp_ret ?_
      refine tq_r ?_
      refine bq_r ?_
      refine tq_r ?_
      refine r_one rfl ⟨rfl, trivial⟩ ?_
      exact rs_int (by simp [longF, *] <;> omega)
    refine a_nil ?_
    refine tq_n ?_
    refine w_false rfl ?_
    refine awp_skip ?_
    refine tq_n ?_
    refine awp_seq ?_
    refine w_reg (l := r104_5.toList) rfl r104_5_ok ?_
    refine a_op rfl (o_as rfl) ?_
    refine a_nil ?_
    refine tq_n ?_
    refine awp_ret ?_
    refine bq_r ?_
    refine tq_r ?_
    refine r_one rfl ⟨rfl, trivial⟩ ?_
    exact rs_int (by simp [longF, *] <;> omega)
  refine a_op rfl (o_as rfl) ?_
  refine a_nil ?_
  refine tq_n ?_
  refine w_false rfl ?_
  refine awp_seq ?_
  refine awp_seq ?_
  refine w_reg (l := r104_6.toList) rfl r104_6_ok ?_
  refine a_if rfl (o_eq rfl rfl) (fun h5 => ?_) (fun h6 => ?_)
  · refine a_op rfl (o_as rfl) ?_
    refine a_nil ?_
    refine tq_n ?_
    refine w_true rfl ?_
    refine awp_skip ?_
    refine tq_n ?_
    refine w_true rfl ?_
    refine awp_seq ?_
    refine w_reg (l := r104_10.toList) rfl r104_10_ok ?_
    refine a_op rfl (o_as rfl) ?_
    refine a_nil ?_
    refine tq_n ?_
    refine awp_ret ?_
    refine bq_r ?_
    refine tq_r ?_
    refine r_one rfl ⟨rfl, trivial⟩ ?_
    exact rs_int (by simp [longF, *] <;> omega)
  refine a_op rfl (o_as rfl) ?_
  refine a_nil ?_
  refine tq_n ?_
  refine w_false rfl ?_
  refine awp_seq ?_
  refine w_reg (l := r104_7.toList) rfl r104_7_ok ?_
  refine a_if rfl (o_eq rfl rfl) (fun h7 => ?_) (fun h8 => ?_)
  · refine a_op rfl (o_as rfl) ?_
    refine a_nil ?_
    refine tq_n ?_
    refine w_true rfl ?_
    refine awp_skip ?_
    refine tq_n ?_
    refine w_true rfl ?_
    refine awp_seq ?_
    refine w_reg (l := r104_10.toList) rfl r104_10_ok ?_
    refine a_op rfl (o_as rfl) ?_
    refine a_nil ?_
    refine tq_n ?_
    refine awp_ret ?_
    refine bq_r ?_
    refine tq_r ?_
    refine r_one rfl ⟨rfl, trivial⟩ ?_
    exact rs_int (by simp [longF, *] <;> omega)
  refine a_op rfl (o_as rfl) ?_
  refine a_nil ?_
  refine tq_n ?_
  refine w_false rfl ?_
  refine awp_seq ?_
  refine w_reg (l := r104_8.toList) rfl r104_8_ok ?_
  refine a_if rfl (o_eq rfl rfl) (fun h9 => ?_) (fun h10 => ?_)
  · refine a_op rfl (o_as rfl) ?_
    refine a_nil ?_
    refine tq_n ?_
    refine w_true rfl ?_
    refine awp_skip ?_
    refine tq_n ?_
    refine w_true rfl ?_
    refine awp_seq ?_
    refine w_reg (l := r104_10.toList) rfl r104_10_ok ?_
    refine a_op rfl (o_as rfl) ?_
    refine a_nil ?_
    refine tq_n ?_
    refine awp_ret ?_
    refine bq_r ?_
    refine tq_r ?_
    refine r_one rfl ⟨rfl, trivial⟩ ?_
    exact rs_int (by simp [longF, *] <;> omega)
  refine a_op rfl (o_as rfl) ?_
  refine a_nil ?_
  refine tq_n ?_
  refine w_false rfl ?_
  refine w_reg (l := r104_9.toList) rfl r104_9_ok ?_
  refine a_if rfl (o_eq rfl rfl) (fun h11 => ?_) (fun h12 => ?_)
  · refine a_op rfl (o_as rfl) ?_
    refine a_nil ?_
    refine tq_n ?_
    refine w_true rfl ?_
    refine awp_seq ?_
    refine w_reg (l := r104_10.toList) rfl r104_10_ok ?_
    refine a_op rfl (o_as rfl) ?_
    refine a_nil ?_
    refine tq_n ?_
    refine awp_ret ?_
    refine bq_r ?_
    refine tq_r ?_
    refine r_one rfl ⟨rfl, trivial⟩ ?_
    exact rs_int (by simp [longF, *] <;> omega)
  refine a_op rfl (o_as rfl) ?_
  refine a_nil ?_
  refine tq_n ?_
  refine w_false rfl ?_
  refine awp_skip ?_
  refine bq_n ?_
  refine tq_n ?_
  refine awp_seq ?_
  refine w_reg (l := r104_11.toList) rfl r104_11_ok ?_
  refine a_op rfl (o_as rfl) ?_
  refine a_nil ?_
  refine tq_n ?_
  refine awp_ret ?_
  refine r_one rfl ⟨rfl, trivial⟩ ?_
  exact rs_int (by simp [longF, *] <;> omega)
noncomputable def r76_0 : Array Oper := opsAt Tryd.f76 [0]
theorem r76_0_ok : dstOk 32 r76_0.toList = true ∧ r76_0.toList.all (fun o => noDefer o.op) = true := by decide +kernel
noncomputable def r76_1 : Array Oper := opsAt Tryd.f76 [1, 0]
theorem r76_1_ok : dstOk 32 r76_1.toList = true ∧ r76_1.toList.all (fun o => noDefer o.op) = true := by decide +kernel
noncomputable def c76 : Code := (.seq (.region 0 r76_0 false) (.seq (.region 1 r76_1 false) .ret))
theorem body76 : Tryd.f76.body = some c76 := by kernel_rfl
theorem rdate_ok (y m d : Int) : PureCall Tryd.prog GL 76 [.raw (.int .i64 y), .raw (.int .i64 m), .raw (.int .i64 d)] (.raw (.bool (dated y m d))) := by
  refine pure_of_body Tryd.func76 body76 (Nat.le_of_ble_eq_true rfl) (by simp) (by simp) ?_
  refine w_keep [(0, .raw (.int .i64 y)), (1, .raw (.int .i64 m)), (2, .raw (.int .i64 d))] ⟨rfl, rfl, rfl, trivial⟩ ?_
  unfold c76
  have hf1 := long_bd y m; have hf2 := dated_long (y := y) (m := m) (d := d)
  refine awp_seq ?_
  refine w_reg (l := r76_0.toList) rfl r76_0_ok ?_
  refine a_op rfl (o_as rfl) ?_
  refine a_nil ?_
  refine tq_n ?_
  refine awp_seq ?_
  refine w_reg (l := r76_1.toList) rfl r76_1_ok ?_
  refine a_op rfl (o_mv rfl) ?_
  refine a_if rfl (o_ge rfl rfl) (fun h1 => ?_) (fun h2 => ?_)
  · refine a_op rfl (o_mv rfl) ?_
    refine a_op rfl (o_mv rfl) ?_
    refine a_if rfl (o_le rfl rfl) (fun h3 => ?_) (fun h4 => ?_)
    · refine a_op rfl (o_pkt rfl rfl) ?_
      refine a_op rfl (o_mv rfl) ?_
      refine a_op rfl (o_mv rfl) ?_
      refine a_if rfl (o_ge rfl rfl) (fun h5 => ?_) (fun h6 => ?_)
      · refine a_op rfl (o_pkt rfl rfl) ?_
        refine a_op rfl (o_mv rfl) ?_
        refine a_op rfl (o_mv rfl) ?_
        refine a_if rfl (o_le rfl rfl) (fun h7 => ?_) (fun h8 => ?_)
        · refine a_op rfl (o_pkt rfl rfl) ?_
          refine a_op rfl (o_mv rfl) ?_
          refine a_op rfl (o_mv rfl) ?_
          refine a_if rfl (o_ge rfl rfl) (fun h9 => ?_) (fun h10 => ?_)
          · refine a_op rfl (o_pkt rfl rfl) ?_
            refine a_op rfl (o_mv rfl) ?_
            refine a_op rfl (o_mv rfl) ?_
            refine a_op rfl (o_mv rfl) ?_
            refine a_op rfl (o_mv rfl) ?_
            refine a_pure rfl rfl rfl cb104 (long_ok _ _ (by omega)) ?_
            refine a_op rfl (o_le rfl rfl) ?_
            refine a_op rfl (o_pkt rfl rfl) ?_
            refine a_op rfl (o_as rfl) ?_
            refine a_nil ?_
            refine tq_n ?_
            refine awp_ret ?_
            refine r_one rfl ⟨rfl, trivial⟩ ?_
            exact rs_dec2 (by first | exact ⟨fun h => (by cases h), fun h => absurd (dated_imp h) (by omega)⟩ | (rw [hf2 (by omega) (by omega)]; simp only [decide_eq_true_eq]; omega))
          refine a_op rfl (o_pkt rfl rfl) ?_
          refine a_op rfl (o_mv rfl) ?_
          refine a_off rfl ?_
          refine a_off rfl ?_
          refine a_off rfl ?_
          refine a_off rfl ?_
          refine a_off rfl ?_
          refine a_op rfl (o_pkf rfl rfl) ?_
          refine a_op rfl (o_as rfl) ?_
          refine a_nil ?_
          refine tq_n ?_
          refine awp_ret ?_
          refine r_one rfl ⟨rfl, trivial⟩ ?_
          exact rs_dec2 (by first | exact ⟨fun h => (by cases h), fun h => absurd (dated_imp h) (by omega)⟩ | (rw [hf2 (by omega) (by omega)]; simp only [decide_eq_true_eq]; omega))
        refine a_op rfl (o_pkt rfl rfl) ?_
        refine a_op rfl (o_mv rfl) ?_
        refine a_off rfl ?_
        refine a_off rfl ?_
        refine a_op rfl (o_pkf rfl rfl) ?_
        refine a_op rfl (o_mv rfl) ?_
        refine a_off rfl ?_
        refine a_off rfl ?_
        refine a_off rfl ?_
        refine a_off rfl ?_
        refine a_off rfl ?_
        refine a_op rfl (o_pkf rfl rfl) ?_
        refine a_op rfl (o_as rfl) ?_
        refine a_nil ?_
        refine tq_n ?_
        refine awp_ret ?_
        refine r_one rfl ⟨rfl, trivial⟩ ?_
        exact rs_dec2 (by first | exact ⟨fun h => (by cases h), fun h => absurd (dated_imp h) (by omega)⟩ | (rw [hf2 (by omega) (by omega)]; simp only [decide_eq_true_eq]; omega))
      refine a_op rfl (o_pkt rfl rfl) ?_
      refine a_op rfl (o_mv rfl) ?_
      refine a_off rfl ?_
      refine a_off rfl ?_
      refine a_op rfl (o_pkf rfl rfl) ?_
      refine a_op rfl (o_mv rfl) ?_
      refine a_off rfl ?_
      refine a_off rfl ?_
      refine a_op rfl (o_pkf rfl rfl) ?_
      refine a_op rfl (o_mv rfl) ?_
      refine a_off rfl ?_
      refine a_off rfl ?_
      refine a_off rfl ?_
      refine a_off rfl ?_
      refine a_off rfl ?_
      refine a_op rfl (o_pkf rfl rfl) ?_
      refine a_op rfl (o_as rfl) ?_
      refine a_nil ?_
      refine tq_n ?_
      refine awp_ret ?_
      refine r_one rfl ⟨rfl, trivial⟩ ?_
      exact rs_dec2 (by first | exact ⟨fun h => (by cases h), fun h => absurd (dated_imp h) (by omega)⟩ | (rw [hf2 (by omega) (by omega)]; simp only [decide_eq_true_eq]; omega))
    refine a_op rfl (o_pkt rfl rfl) ?_
    refine a_op rfl (o_mv rfl) ?_
    refine a_off rfl ?_
    refine a_off rfl ?_
    refine a_op rfl (o_pkf rfl rfl) ?_
    refine a_op rfl (o_mv rfl) ?_
    refine a_off rfl ?_
    refine a_off rfl ?_
    refine a_op rfl (o_pkf rfl rfl) ?_
    refine a_op rfl (o_mv rfl) ?_
    refine a_off rfl ?_
    refine a_off rfl ?_
    refine a_op rfl (o_pkf rfl rfl) ?_
    refine a_op rfl (o_mv rfl) ?_
    refine a_off rfl ?_
    refine a_off rfl ?_
    refine a_off rfl ?_
    refine a_off rfl ?_
    refine a_off rfl ?_
    refine a_op rfl (o_pkf rfl rfl) ?_
    refine a_op rfl (o_as rfl) ?_
    refine a_nil ?_
    refine tq_n ?_
    refine awp_ret ?_
    refine r_one rfl ⟨rfl, trivial⟩ ?_
    exact rs_dec2 (by first | exact ⟨fun h => (by cases h), fun h => absurd (dated_imp h) (by omega)⟩ | (rw [hf2 (by omega) (by omega)]; simp only [decide_eq_true_eq]; omega))
  refine a_op rfl (o_mv rfl) ?_
  refine a_off rfl ?_
  refine a_off rfl ?_
  refine a_op rfl (o_pkf rfl rfl) ?_
  refine a_op rfl (o_mv rfl) ?_
  refine a_off rfl ?_
  refine a_off rfl ?_
  refine a_op rfl (o_pkf rfl rfl) ?_
  refine a_op rfl (o_mv rfl) ?_
  refine a_off rfl ?_
  refine a_off rfl ?_
  refine a_op rfl (o_pkf rfl rfl) ?_
  refine a_op rfl (o_mv rfl) ?_
  refine a_off rfl ?_
  refine a_off rfl ?_
  refine a_op rfl (o_pkf rfl rfl) ?_
  refine a_op rfl (o_mv rfl) ?_
  refine a_off rfl ?_
  refine a_off rfl ?_
  refine a_off rfl ?_
  refine a_off rfl ?_
  refine a_off rfl ?_
  refine a_op rfl (o_pkf rfl rfl) ?_
  refine a_op rfl (o_as rfl) ?_
  refine a_nil ?_
  refine tq_n ?_
  refine awp_ret ?_
  refine r_one rfl ⟨rfl, trivial⟩ ?_
  exact rs_dec2 (by first | exact ⟨fun h => (by cases h), fun h => absurd (dated_imp h) (by omega)⟩ | (rw [hf2 (by omega) (by omega)]; simp only [decide_eq_true_eq]; omega))
noncomputable def r102_0 : Array Oper := opsAt Tryd.f102 [0]
theorem r102_0_ok : dstOk 10 r102_0.toList = true ∧ r102_0.toList.all (fun o => noDefer o.op) = true := by decide +kernel
noncomputable def r102_1 : Array Oper := opsAt Tryd.f102 [1, 0, 0]
theorem r102_1_ok : dstOk 10 r102_1.toList = true ∧ r102_1.toList.all (fun o => noDefer o.op) = true := by decide +kernel
noncomputable def r102_2 : Array Oper := opsAt Tryd.f102 [1, 0, 1, 0, 0]
theorem r102_2_ok : dstOk 10 r102_2.toList = true ∧ r102_2.toList.all (fun o => noDefer o.op) = true := by decide +kernel
noncomputable def r102_3 : Array Oper := opsAt Tryd.f102 [1, 1, 0, 0]
theorem r102_3_ok : dstOk 10 r102_3.toList = true ∧ r102_3.toList.all (fun o => noDefer o.op) = true := by decide +kernel
noncomputable def r102_4 : Array Oper := opsAt Tryd.f102 [1, 1, 0, 1, 0, 0]
theorem r102_4_ok : dstOk 10 r102_4.toList = true ∧ r102_4.toList.all (fun o => noDefer o.op) = true := by decide +kernel
noncomputable def r102_5 : Array Oper := opsAt Tryd.f102 [1, 1, 1, 0]
theorem r102_5_ok : dstOk 10 r102_5.toList = true ∧ r102_5.toList.all (fun o => noDefer o.op) = true := by decide +kernel
noncomputable def c102 : Code := (.seq (.region 0 r102_0 false) (.seq (.seq (.region 1 r102_1 false) (.cond (.tmp 6) (.seq (.region 2 r102_2 false) .ret) .skip)) (.seq (.seq (.region 3 r102_3 false) (.cond (.tmp 9) (.seq (.region 4 r102_4 false) .ret) .skip)) (.seq (.region 5 r102_5 false) .ret))))
theorem body102 : Tryd.f102.body = some c102 := by kernel_rfl
theorem rwithin_ok (n most : Int) : PureCall Tryd.prog GL 102 [.raw (.int .i64 n), .raw (.int .i64 most)] (.raw (.int .i64 (wi n most))) := by
  refine pure_of_body Tryd.func102 body102 (Nat.le_of_ble_eq_true rfl) (by simp) (by simp) ?_
  refine w_keep [(0, .raw (.int .i64 n)), (1, .raw (.int .i64 most))] ⟨rfl, rfl, trivial⟩ ?_
  unfold c102
  refine awp_seq ?_
  refine w_reg (l := r102_0.toList) rfl r102_0_ok ?_
  refine a_op rfl (o_as rfl) ?_
  refine a_nil ?_
  refine tq_n ?_
  refine awp_seq ?_
  refine awp_seq ?_
  refine w_reg (l := r102_1.toList) rfl r102_1_ok ?_
  refine a_op rfl (o_mv rfl) ?_
  refine a_if rfl (o_lt rfl rfl) (fun h1 => ?_) (fun h2 => ?_)
  · refine a_nil ?_
    refine tq_n ?_
    refine w_true rfl ?_
    refine awp_seq ?_
    refine w_reg (l := r102_2.toList) rfl r102_2_ok ?_
    refine a_op rfl (o_as rfl) ?_
    refine a_nil ?_
    refine tq_n ?_
    refine awp_ret ?_
    refine tq_r ?_
    refine r_one rfl ⟨rfl, trivial⟩ ?_
    exact rs_pur (by simp) (by simp [wi, *])
  refine a_nil ?_
  refine tq_n ?_
  refine w_false rfl ?_
  refine awp_skip ?_
  refine tq_n ?_
  refine awp_seq ?_
  refine awp_seq ?_
  refine w_reg (l := r102_3.toList) rfl r102_3_ok ?_
  refine a_op rfl (o_mv rfl) ?_
  refine a_op rfl (o_mv rfl) ?_
  refine a_if rfl (o_gt rfl rfl) (fun h3 => ?_) (fun h4 => ?_)
  · refine a_nil ?_
    refine tq_n ?_
    refine w_true rfl ?_
    refine awp_seq ?_
    refine w_reg (l := r102_4.toList) rfl r102_4_ok ?_
    refine a_op rfl (o_as rfl) ?_
    refine a_nil ?_
    refine tq_n ?_
    refine awp_ret ?_
    refine tq_r ?_
    refine r_one rfl ⟨rfl, trivial⟩ ?_
    exact rs_pur (by simp) (by simp [wi, *])
  refine a_nil ?_
  refine tq_n ?_
  refine w_false rfl ?_
  refine awp_skip ?_
  refine tq_n ?_
  refine awp_seq ?_
  refine w_reg (l := r102_5.toList) rfl r102_5_ok ?_
  refine a_op rfl (o_as rfl) ?_
  refine a_nil ?_
  refine tq_n ?_
  refine awp_ret ?_
  refine r_one rfl ⟨rfl, trivial⟩ ?_
  exact rs_pur (by simp) (by simp [wi, *])
noncomputable def r108_0 : Array Oper := opsAt Tryd.f108 [0]
theorem r108_0_ok : dstOk 12 r108_0.toList = true ∧ r108_0.toList.all (fun o => noDefer o.op) = true := by decide +kernel
noncomputable def r108_1 : Array Oper := opsAt Tryd.f108 [1, 0, 0]
theorem r108_1_ok : dstOk 12 r108_1.toList = true ∧ r108_1.toList.all (fun o => noDefer o.op) = true := by decide +kernel
noncomputable def r108_2 : Array Oper := opsAt Tryd.f108 [1, 0, 1, 0]
theorem r108_2_ok : dstOk 12 r108_2.toList = true ∧ r108_2.toList.all (fun o => noDefer o.op) = true := by decide +kernel
noncomputable def r108_3 : Array Oper := opsAt Tryd.f108 [1, 0, 1, 1, 0, 0]
theorem r108_3_ok : dstOk 12 r108_3.toList = true ∧ r108_3.toList.all (fun o => noDefer o.op) = true := by decide +kernel
noncomputable def r108_4 : Array Oper := opsAt Tryd.f108 [1, 1, 0]
theorem r108_4_ok : dstOk 12 r108_4.toList = true ∧ r108_4.toList.all (fun o => noDefer o.op) = true := by decide +kernel
noncomputable def c108 : Code := (.seq (.region 0 r108_0 false) (.seq (.seq (.region 1 r108_1 false) (.seq (.region 2 r108_2 false) (.cond (.tmp 8) (.seq (.region 3 r108_3 false) .ret) .skip))) (.seq (.region 4 r108_4 false) .ret)))
theorem body108 : Tryd.f108.body = some c108 := by kernel_rfl
theorem rweekday_ok (day : Int) : PureCall Tryd.prog GL 108 [.raw (.int .i64 day)] (.tup [.raw (.int .i64 (if wi day 730484 = 0 then day % 7 else 0)), .raw (.int .i64 (wi day 730484))]) := by
  refine pure_of_body Tryd.func108 body108 (Nat.le_of_ble_eq_true rfl) (by simp) (by simp) ?_
  refine w_keep [(0, .raw (.int .i64 day))] ⟨rfl, trivial⟩ ?_
  unfold c108
  have hw := wi_iff day 730484
  refine awp_seq ?_
  refine w_reg (l := r108_0.toList) rfl r108_0_ok ?_
  refine a_op rfl (o_as rfl) ?_
  refine a_op rfl (o_as rfl) ?_
  refine a_nil ?_
  refine tq_n ?_
  refine awp_seq ?_
  refine awp_seq ?_
  refine w_reg (l := r108_1.toList) rfl r108_1_ok ?_
  refine a_op rfl (o_mv rfl) ?_
  refine a_pure rfl rfl rfl cb102 (rwithin_ok _ _) ?_
  refine a_op rfl (o_as rfl) ?_
  refine a_nil ?_
  refine tq_n ?_
  refine awp_seq ?_
  refine w_reg (l := r108_2.toList) rfl r108_2_ok ?_
  refine a_op rfl (o_mv rfl) ?_
  refine a_if rfl (o_ne rfl rfl) (fun h1 => ?_) (fun h2 => ?_)
  · refine a_nil ?_
    refine tq_n ?_
    refine w_true rfl ?_
    refine awp_seq ?_
    refine w_reg (l := r108_3.toList) rfl r108_3_ok ?_
    refine a_op rfl (o_mv rfl) ?_
    refine a_op rfl (o_as rfl) ?_
    refine a_op rfl (o_as rfl) ?_
    refine a_nil ?_
    refine tq_n ?_
    refine awp_ret ?_
    refine tq_r ?_
    refine r_tup (xs := []) rfl ⟨rfl, rfl, trivial⟩ ?_
    exact rs_tup ⟨rs_int (by first | omega | (split <;> omega)), rs_int (by first | omega | (split <;> omega)), trivial⟩
  refine a_nil ?_
  refine tq_n ?_
  refine w_false rfl ?_
  refine awp_skip ?_
  refine tq_n ?_
  refine awp_seq ?_
  refine w_reg (l := r108_4.toList) rfl r108_4_ok ?_
  refine a_op rfl (o_mv rfl) ?_
  refine a_op rfl (o_rem rfl rfl (by omega) (by omega)) ?_
  refine a_op rfl (o_as rfl) ?_
  refine a_op rfl (o_as rfl) ?_
  refine a_nil ?_
  refine tq_n ?_
  refine awp_ret ?_
  refine r_tup (xs := []) rfl ⟨rfl, rfl, trivial⟩ ?_
  exact rs_tup ⟨rs_int (by first | omega | (split <;> omega)), rs_int (by first | omega | (split <;> omega)), trivial⟩
noncomputable def r75_0 : Array Oper := opsAt Tryd.f75 [0]
theorem r75_0_ok : dstOk 41 r75_0.toList = true ∧ r75_0.toList.all (fun o => noDefer o.op) = true := by decide +kernel
noncomputable def r75_1 : Array Oper := opsAt Tryd.f75 [1, 0, 0]
theorem r75_1_ok : dstOk 41 r75_1.toList = true ∧ r75_1.toList.all (fun o => noDefer o.op) = true := by decide +kernel
noncomputable def r75_2 : Array Oper := opsAt Tryd.f75 [1, 0, 1, 0]
theorem r75_2_ok : dstOk 41 r75_2.toList = true ∧ r75_2.toList.all (fun o => noDefer o.op) = true := by decide +kernel
noncomputable def r75_3 : Array Oper := opsAt Tryd.f75 [1, 0, 1, 1, 0, 0]
theorem r75_3_ok : dstOk 41 r75_3.toList = true ∧ r75_3.toList.all (fun o => noDefer o.op) = true := by decide +kernel
noncomputable def r75_4 : Array Oper := opsAt Tryd.f75 [1, 1, 0]
theorem r75_4_ok : dstOk 41 r75_4.toList = true ∧ r75_4.toList.all (fun o => noDefer o.op) = true := by decide +kernel
noncomputable def r75_5 : Array Oper := opsAt Tryd.f75 [1, 1, 1, 0, 0, 0, 0, 0]
theorem r75_5_ok : dstOk 41 r75_5.toList = true ∧ r75_5.toList.all (fun o => noDefer o.op) = true := by decide +kernel
noncomputable def r75_6 : Array Oper := opsAt Tryd.f75 [1, 1, 1, 0, 0, 0, 0, 1, 0, 0]
theorem r75_6_ok : dstOk 41 r75_6.toList = true ∧ r75_6.toList.all (fun o => noDefer o.op) = true := by decide +kernel
noncomputable def r75_7 : Array Oper := opsAt Tryd.f75 [1, 1, 1, 0, 0, 0, 0, 1, 0, 1, 0]
theorem r75_7_ok : dstOk 41 r75_7.toList = true ∧ r75_7.toList.all (fun o => noDefer o.op) = true := by decide +kernel
noncomputable def r75_8 : Array Oper := opsAt Tryd.f75 [1, 1, 1, 0, 0, 0, 0, 1, 1, 0, 0]
theorem r75_8_ok : dstOk 41 r75_8.toList = true ∧ r75_8.toList.all (fun o => noDefer o.op) = true := by decide +kernel
noncomputable def r75_9 : Array Oper := opsAt Tryd.f75 [1, 1, 1, 0, 0, 0, 0, 1, 1, 1, 0]
theorem r75_9_ok : dstOk 41 r75_9.toList = true ∧ r75_9.toList.all (fun o => noDefer o.op) = true := by decide +kernel
noncomputable def r75_10 : Array Oper := opsAt Tryd.f75 [1, 1, 1, 0, 0, 0, 0, 1, 1, 1, 1]
theorem r75_10_ok : dstOk 41 r75_10.toList = true ∧ r75_10.toList.all (fun o => noDefer o.op) = true := by decide +kernel
noncomputable def b75_0 : Code := (.block 1 (.seq (.region 5 r75_5 false) (.seq (.seq (.region 6 r75_6 false) (.cond (.tmp 16) (.region 7 r75_7 false) .skip)) (.seq (.seq (.region 8 r75_8 false) (.cond (.tmp 19) (.exit 0) .skip)) (.seq (.region 9 r75_9 false) (.region 10 r75_10 false))))))
noncomputable def r75_11 : Array Oper := opsAt Tryd.f75 [1, 1, 1, 1, 0, 0, 0, 0, 0]
theorem r75_11_ok : dstOk 41 r75_11.toList = true ∧ r75_11.toList.all (fun o => noDefer o.op) = true := by decide +kernel
noncomputable def r75_12 : Array Oper := opsAt Tryd.f75 [1, 1, 1, 1, 0, 0, 0, 1, 0, 0]
theorem r75_12_ok : dstOk 41 r75_12.toList = true ∧ r75_12.toList.all (fun o => noDefer o.op) = true := by decide +kernel
noncomputable def r75_13 : Array Oper := opsAt Tryd.f75 [1, 1, 1, 1, 0, 0, 0, 1, 0, 1]
theorem r75_13_ok : dstOk 41 r75_13.toList = true ∧ r75_13.toList.all (fun o => noDefer o.op) = true := by decide +kernel
noncomputable def b75_1 : Code := (.seq (.seq (.region 11 r75_11 false) (.cond (.tmp 29) .skip (.exit 2))) (.block 3 (.seq (.region 12 r75_12 false) (.region 13 r75_13 false))))
noncomputable def r75_14 : Array Oper := opsAt Tryd.f75 [1, 1, 1, 1, 1, 0]
theorem r75_14_ok : dstOk 41 r75_14.toList = true ∧ r75_14.toList.all (fun o => noDefer o.op) = true := by decide +kernel
noncomputable def c75 : Code := (.seq (.region 0 r75_0 false) (.seq (.seq (.region 1 r75_1 false) (.seq (.region 2 r75_2 false) (.cond (.tmp 13) (.seq (.region 3 r75_3 false) .ret) .skip))) (.seq (.region 4 r75_4 false) (.seq (.block 0 (.loop b75_0)) (.seq (.block 2 (.loop b75_1)) (.seq (.region 14 r75_14 false) .ret))))))
theorem body75 : Tryd.f75.body = some c75 := by kernel_rfl
theorem rDate_ok (day : Int) : PureCall Tryd.prog GL 75 [.raw (.int .i64 day)] (dateAV day) := by
  refine pure_of_body Tryd.func75 body75 (Nat.le_of_ble_eq_true rfl) (by simp) (by simp) ?_
  refine w_keep [(0, .raw (.int .i64 day))] ⟨rfl, trivial⟩ ?_
  unfold c75
  have hw := wi_iff day 730484
  refine awp_seq ?_
  refine w_reg (l := r75_0.toList) rfl r75_0_ok ?_
  refine a_op rfl (o_as rfl) ?_
  refine a_op rfl (o_as rfl) ?_
  refine a_op rfl (o_as rfl) ?_
  refine a_op rfl (o_as rfl) ?_
  refine a_nil ?_
  refine tq_n ?_
  refine awp_seq ?_
  refine awp_seq ?_
  refine w_reg (l := r75_1.toList) rfl r75_1_ok ?_
  refine a_op rfl (o_mv rfl) ?_
  refine a_pure rfl rfl rfl cb102 (rwithin_ok _ _) ?_
  refine a_op rfl (o_as rfl) ?_
  refine a_nil ?_
  refine tq_n ?_
  refine awp_seq ?_
  refine w_reg (l := r75_2.toList) rfl r75_2_ok ?_
  refine a_op rfl (o_mv rfl) ?_
  refine a_if rfl (o_ne rfl rfl) (fun h1 => ?_) (fun h2 => ?_)
  · refine a_nil ?_
    refine tq_n ?_
    refine w_true rfl ?_
    refine awp_seq ?_
    refine w_reg (l := r75_3.toList) rfl r75_3_ok ?_
    refine a_op rfl (o_mv rfl) ?_
    refine a_op rfl (o_as rfl) ?_
    refine a_op rfl (o_as rfl) ?_
    refine a_op rfl (o_as rfl) ?_
    refine a_op rfl (o_as rfl) ?_
    refine a_nil ?_
    refine tq_n ?_
    refine awp_ret ?_
    refine tq_r ?_
    refine r_tup (xs := [_, _]) rfl ⟨rfl, rfl, rfl, rfl, trivial⟩ ?_
    clear hw
    exact rs_tup ⟨rs_int (by simp [dateY, *]), rs_int (by simp [dateM, *]), rs_int (by simp [dateD, *]), rs_int rfl, trivial⟩
  refine a_nil ?_
  refine tq_n ?_
  refine w_false rfl ?_
  refine awp_skip ?_
  refine tq_n ?_
  refine awp_seq ?_
  refine w_reg (l := r75_4.toList) rfl r75_4_ok ?_
  refine a_op rfl (o_as rfl) ?_
  refine a_op rfl (o_as rfl) ?_
  refine a_nil ?_
  refine tq_n ?_
  refine w_join (fun s : Int × Int => 2001 ≤ s.1 ∧ 0 ≤ s.2 ∧ dayN s.1 s.2 = day ∧ wi day 730484 = 0 ∧ s.1 ≤ 4000 ∧ s.2 < fst s.1 13) (fun s => [(0, .raw (.int .i64 s.2)), (7, .raw (.int .i64 s.1)), (8, .raw (.int .i64 1))]) (fun _ => []) ?_ ?_
  · refine awp_block ?_
    refine w_loop (fun s : Int × Int => 2001 ≤ s.1 ∧ 0 ≤ s.2 ∧ dayN s.1 s.2 = day ∧ wi day 730484 = 0) (fun s => [(0, .raw (.int .i64 s.2)), (7, .raw (.int .i64 s.1)), (8, .raw (.int .i64 1))]) (fun _ => []) (fun s => s.2.toNat) ((2001, day)) ⟨by dsimp only; omega, by dsimp only; omega, by dsimp only; unfold dayN; omega, by omega⟩ ⟨(by first | exact sub_int rfl (by omega) | rfl | exact sub_int rfl (by rw [fst1]; omega)), (by first | exact sub_int rfl (by omega) | rfl | exact sub_int rfl (by rw [fst1]; omega)), (by first | exact sub_int rfl (by omega) | rfl | exact sub_int rfl (by rw [fst1]; omega)), trivial⟩ rfl ?_
    intro ⟨y, k⟩ ⟨hp1, hp2, hp3, hp4⟩
    dsimp only at hp1 hp2 hp3 ⊢
    have hy4 := dayN_le hp1 (by omega) hp2
    have hkb := dayN_k hp1 (show dayN y k ≤ 730484 by omega)
    have hnx := dayN_next y k hp1
    unfold b75_0
    refine awp_block ?_
    refine awp_seq ?_
    refine w_reg (l := r75_5.toList) rfl r75_5_ok ?_
    refine a_op rfl (o_as rfl) ?_
    refine a_nil ?_
    refine tq_n ?_
    refine awp_seq ?_
    refine awp_seq ?_
    refine w_reg (l := r75_6.toList) rfl r75_6_ok ?_
    refine a_op rfl (o_mv rfl) ?_
    refine a_pureb rfl rfl rfl cb103 (rleap_ok _ (by omega)) (fun h3 => ?_) (fun h4 => ?_)
    · refine a_nil ?_
      refine tq_n ?_
      refine w_true rfl ?_
      refine w_reg (l := r75_7.toList) rfl r75_7_ok ?_
      refine a_op rfl (o_as rfl) ?_
      refine a_nil ?_
      refine tq_n ?_
      refine awp_seq ?_
      refine awp_seq ?_
      refine w_reg (l := r75_8.toList) rfl r75_8_ok ?_
      refine a_op rfl (o_mv rfl) ?_
      refine a_op rfl (o_mv rfl) ?_
      refine a_if rfl (o_lt rfl rfl) (fun h5 => ?_) (fun h6 => ?_)
      · refine a_nil ?_
        refine tq_n ?_
        refine w_true rfl ?_
        refine awp_exit ?_
        refine tq_x ?_
        refine bq_miss rfl ?_
        refine tq_x ?_
        refine bq_hit ?_
        refine tq_n ?_
        exact ⟨(y, k), ⟨hp1, hp2, hp3, hp4, hy4, by dsimp only; rw [fst13]; simp only [*, if_true, if_false, Bool.false_eq_true]; omega⟩, ⟨(by first | exact sub_int rfl (by omega) | rfl | exact sub_int rfl (by rw [fst1]; omega)), (by first | exact sub_int rfl (by omega) | rfl | exact sub_int rfl (by rw [fst1]; omega)), (by first | exact sub_int rfl (by omega) | rfl | exact sub_int rfl (by rw [fst1]; omega)), trivial⟩, rfl⟩
      refine a_nil ?_
      refine tq_n ?_
      refine w_false rfl ?_
      refine awp_skip ?_
      refine tq_n ?_
      refine awp_seq ?_
      refine w_reg (l := r75_9.toList) rfl r75_9_ok ?_
      refine a_op rfl (o_mv rfl) ?_
      refine a_op rfl (o_mv rfl) ?_
      refine a_op rfl (o_sub rfl rfl (by simp only [klo, khi]; omega)) ?_
      refine a_op rfl (o_as rfl) ?_
      refine a_nil ?_
      refine tq_n ?_
      refine w_reg (l := r75_10.toList) rfl r75_10_ok ?_
      refine a_op rfl (o_mv rfl) ?_
      refine a_op rfl (o_add rfl rfl (by simp only [klo, khi]; omega)) ?_
      refine a_op rfl (o_as rfl) ?_
      refine a_nil ?_
      refine bq_n ?_
      refine tq_n ?_
      exact ⟨(y + 1, k - 366), ⟨⟨by dsimp only; omega, by dsimp only; omega, by dsimp only; rw [if_pos (by assumption), show k - 365 - 1 = k - 366 by omega] at hnx; omega, hp4⟩, by dsimp only; omega⟩, ⟨(by first | exact sub_int rfl (by omega) | rfl | exact sub_int rfl (by rw [fst1]; omega)), (by first | exact sub_int rfl (by omega) | rfl | exact sub_int rfl (by rw [fst1]; omega)), (by first | exact sub_int rfl (by omega) | rfl | exact sub_int rfl (by rw [fst1]; omega)), trivial⟩, rfl⟩
    refine a_nil ?_
    refine tq_n ?_
    refine w_false rfl ?_
    refine awp_skip ?_
    refine tq_n ?_
    refine awp_seq ?_
    refine awp_seq ?_
    refine w_reg (l := r75_8.toList) rfl r75_8_ok ?_
    refine a_op rfl (o_mv rfl) ?_
    refine a_op rfl (o_mv rfl) ?_
    refine a_if rfl (o_lt rfl rfl) (fun h7 => ?_) (fun h8 => ?_)
    · refine a_nil ?_
      refine tq_n ?_
      refine w_true rfl ?_
      refine awp_exit ?_
      refine tq_x ?_
      refine bq_miss rfl ?_
      refine tq_x ?_
      refine bq_hit ?_
      refine tq_n ?_
      exact ⟨(y, k), ⟨hp1, hp2, hp3, hp4, hy4, by dsimp only; rw [fst13]; simp only [*, if_true, if_false, Bool.false_eq_true]; omega⟩, ⟨(by first | exact sub_int rfl (by omega) | rfl | exact sub_int rfl (by rw [fst1]; omega)), (by first | exact sub_int rfl (by omega) | rfl | exact sub_int rfl (by rw [fst1]; omega)), (by first | exact sub_int rfl (by omega) | rfl | exact sub_int rfl (by rw [fst1]; omega)), trivial⟩, rfl⟩
    refine a_nil ?_
    refine tq_n ?_
    refine w_false rfl ?_
    refine awp_skip ?_
    refine tq_n ?_
    refine awp_seq ?_
    refine w_reg (l := r75_9.toList) rfl r75_9_ok ?_
    refine a_op rfl (o_mv rfl) ?_
    refine a_op rfl (o_mv rfl) ?_
    refine a_op rfl (o_sub rfl rfl (by simp only [klo, khi]; omega)) ?_
    refine a_op rfl (o_as rfl) ?_
    refine a_nil ?_
    refine tq_n ?_
    refine w_reg (l := r75_10.toList) rfl r75_10_ok ?_
    refine a_op rfl (o_mv rfl) ?_
    refine a_op rfl (o_add rfl rfl (by simp only [klo, khi]; omega)) ?_
    refine a_op rfl (o_as rfl) ?_
    refine a_nil ?_
    refine bq_n ?_
    refine tq_n ?_
    exact ⟨(y + 1, k - 365), ⟨⟨by dsimp only; omega, by dsimp only; omega, by dsimp only; rw [if_neg (by simp [*])] at hnx; simp only [Int.sub_zero] at hnx; omega, hp4⟩, by dsimp only; omega⟩, ⟨(by first | exact sub_int rfl (by omega) | rfl | exact sub_int rfl (by rw [fst1]; omega)), (by first | exact sub_int rfl (by omega) | rfl | exact sub_int rfl (by rw [fst1]; omega)), (by first | exact sub_int rfl (by omega) | rfl | exact sub_int rfl (by rw [fst1]; omega)), trivial⟩, rfl⟩
  intro ⟨y, k⟩ ⟨hp1, hp2, hp3, hp4, hp5, hp6⟩
  dsimp only at hp1 hp2 hp3 hp5 hp6 ⊢
  obtain ⟨_, _, hY, hK⟩ := dayN_dt hp1 hp5 hp2 hp6
  rw [hp3] at hY hK
  have hf13 := fst13 y
  have hkk : k ≤ 366 := by split at hf13 <;> omega
  refine awp_seq ?_
  refine awp_block ?_
  refine w_loop (fun m : Int => 1 ≤ m ∧ m ≤ 12 ∧ fst y m ≤ k) (fun m => [(0, .raw (.int .i64 (k - fst y m))), (7, .raw (.int .i64 y)), (8, .raw (.int .i64 m))]) (fun _ => []) (fun m => (13 - m).toNat) (1) ⟨by omega, by omega, by rw [fst1]; exact hp2⟩ ⟨(by first | exact sub_int rfl (by omega) | rfl | exact sub_int rfl (by rw [fst1]; omega)), (by first | exact sub_int rfl (by omega) | rfl | exact sub_int rfl (by rw [fst1]; omega)), (by first | exact sub_int rfl (by omega) | rfl | exact sub_int rfl (by rw [fst1]; omega)), trivial⟩ rfl ?_
  intro m ⟨hm1, hm2, hm3⟩
  have hlf := long_fst y m hm1 hm2
  have hlb := long_bd y m
  have hfb := fst_bd y m
  have h12 : m = 12 → fst y (m + 1) = fst y 13 := by rintro rfl; rfl
  unfold b75_1
  refine awp_seq ?_
  refine awp_seq ?_
  refine w_reg (l := r75_11.toList) rfl r75_11_ok ?_
  refine a_op rfl (o_mv rfl) ?_
  refine a_op rfl (o_mv rfl) ?_
  refine a_op rfl (o_mv rfl) ?_
  refine a_pure rfl rfl rfl cb104 (long_ok _ _ (by omega)) ?_
  refine a_if rfl (o_ge rfl rfl) (fun h9 => ?_) (fun h10 => ?_)
  · refine a_nil ?_
    refine tq_n ?_
    refine w_true rfl ?_
    refine awp_skip ?_
    refine tq_n ?_
    refine awp_block ?_
    refine awp_seq ?_
    refine w_reg (l := r75_12.toList) rfl r75_12_ok ?_
    refine a_op rfl (o_mv rfl) ?_
    refine a_op rfl (o_mv rfl) ?_
    refine a_op rfl (o_mv rfl) ?_
    refine a_pure rfl rfl rfl cb104 (long_ok _ _ (by omega)) ?_
    refine a_op rfl (o_sub rfl rfl (by simp only [klo, khi]; omega)) ?_
    refine a_op rfl (o_as rfl) ?_
    refine a_nil ?_
    refine tq_n ?_
    refine w_reg (l := r75_13.toList) rfl r75_13_ok ?_
    refine a_op rfl (o_mv rfl) ?_
    refine a_op rfl (o_add rfl rfl (by simp only [klo, khi]; omega)) ?_
    refine a_op rfl (o_as rfl) ?_
    refine a_nil ?_
    refine bq_n ?_
    refine tq_n ?_
    exact ⟨m + 1, ⟨⟨by omega, by omega, by omega⟩, by omega⟩, ⟨(by first | exact sub_int rfl (by omega) | rfl | exact sub_int rfl (by rw [fst1]; omega)), (by first | exact sub_int rfl (by omega) | rfl | exact sub_int rfl (by rw [fst1]; omega)), (by first | exact sub_int rfl (by omega) | rfl | exact sub_int rfl (by rw [fst1]; omega)), trivial⟩, rfl⟩
  refine a_nil ?_
  refine tq_n ?_
  refine w_false rfl ?_
  refine awp_exit ?_
  refine tq_x ?_
  refine tq_x ?_
  refine bq_hit ?_
  refine tq_n ?_
  refine awp_seq ?_
  refine w_reg (l := r75_14.toList) rfl r75_14_ok ?_
  refine a_op rfl (o_mv rfl) ?_
  refine a_op rfl (o_mv rfl) ?_
  refine a_op rfl (o_mv rfl) ?_
  refine a_op rfl (o_add rfl rfl (by simp only [klo, khi]; omega)) ?_
  refine a_op rfl (o_as rfl) ?_
  refine a_op rfl (o_as rfl) ?_
  refine a_op rfl (o_as rfl) ?_
  refine a_op rfl (o_as rfl) ?_
  refine a_nil ?_
  refine tq_n ?_
  refine awp_ret ?_
  refine r_tup (xs := [_, _]) rfl ⟨rfl, rfl, rfl, rfl, trivial⟩ ?_
  have hM : dtM day = m := by unfold dtM; rw [hY, hK]; exact mon_eq y k 12 1 m (by omega) hm1 (by omega) hm2 hm3 (by omega)
  exact rs_tup ⟨rs_int (by simp only [dateY, hp4, if_true, hY]), rs_int (by simp only [dateM, hp4, if_true, hM]), rs_int (by simp only [dateD, hp4, if_true, dtD, hM, hY, hK]), rs_int hp4.symm, trivial⟩
end Go.Ab.D
