/- What functions of this program compute, and the laws of what they compute, under the bounds on lengths that each contract states. -/
import Derived.Test.YtghoaglolhdoeaaDoorD2
set_option linter.unusedSimpArgs false
set_option linter.unusedVariables false
namespace Go.Ab.D
open Go Go.Ab Go.Proofs

noncomputable def r88_0 : Array Oper := opsAt Tryd.f88 [0]
theorem r88_0_ok : dstOk 8 r88_0.toList = true ∧ r88_0.toList.all (fun o => noDefer o.op) = true := by decide +kernel
noncomputable def r88_1 : Array Oper := opsAt Tryd.f88 [1, 0]
theorem r88_1_ok : dstOk 8 r88_1.toList = true ∧ r88_1.toList.all (fun o => noDefer o.op) = true := by decide +kernel
noncomputable def c88 : Code := (.seq (.region 0 r88_0 false) (.seq (.region 1 r88_1 false) .ret))
theorem body88 : Tryd.f88.body = some c88 := by kernel_rfl
theorem of_ok (b : Bool) (rules : List RuleR) (pt kind : Int) : PureCall Tryd.prog GL 88 [.sl 5 b (rules.map ruleAV), .raw (.int .i64 pt), .raw (.int .u8 kind)] (.fn 109 [] [.rp [.sl 5 b (rules.map ruleAV)], .rp [.raw (.int .i64 pt)], .rp [.raw (.int .u8 kind)]]) := by
  refine pure_of_body Tryd.func88 body88 (Nat.le_of_ble_eq_true rfl) (by simp) (by simp) ?_
  refine w_keep [(0, .sl 5 b (rules.map ruleAV)), (1, .raw (.int .i64 pt)), (2, .raw (.int .u8 kind))] ⟨rfl, rfl, rfl, trivial⟩ ?_
  unfold c88
  refine awp_seq ?_
  refine w_reg (l := r88_0.toList) rfl r88_0_ok ?_
  refine a_op rfl (o_box (N := 0) rfl (by rfl) rfl rfl) ?_
  refine a_op rfl (o_box (N := 1) rfl (by rfl) rfl rfl) ?_
  refine a_op rfl (o_box (N := 2) rfl (by rfl) rfl rfl) ?_
  refine a_op rfl (o_as rfl) ?_
  refine a_nil ?_
  refine tq_n ?_
  refine awp_seq ?_
  refine w_reg (l := r88_1.toList) rfl r88_1_ok ?_
  refine a_op rfl (o_mf rfl rfl) ?_
  refine a_op rfl (o_as rfl) ?_
  refine a_nil ?_
  refine tq_n ?_
  refine awp_ret ?_
  refine r_one rfl ⟨rfl, trivial⟩ ?_
  exact rs_fn trivial ⟨rs_ptr id rfl rfl ⟨rs_pur (by simp) rfl, trivial⟩, rs_ptr id rfl rfl ⟨rs_pur (by simp) rfl, trivial⟩, rs_ptr id rfl rfl ⟨rs_pur (by simp) rfl, trivial⟩, trivial⟩
noncomputable def r59_0 : Array Oper := opsAt Tryd.f59 [0]
theorem r59_0_ok : dstOk 27 r59_0.toList = true ∧ r59_0.toList.all (fun o => noDefer o.op) = true := by decide +kernel
noncomputable def r59_1 : Array Oper := opsAt Tryd.f59 [1, 0]
theorem r59_1_ok : dstOk 27 r59_1.toList = true ∧ r59_1.toList.all (fun o => noDefer o.op) = true := by decide +kernel
noncomputable def r59_2 : Array Oper := opsAt Tryd.f59 [1, 1, 0, 0]
theorem r59_2_ok : dstOk 27 r59_2.toList = true ∧ r59_2.toList.all (fun o => noDefer o.op) = true := by decide +kernel
noncomputable def r59_3 : Array Oper := opsAt Tryd.f59 [1, 1, 0, 1, 0, 0]
theorem r59_3_ok : dstOk 27 r59_3.toList = true ∧ r59_3.toList.all (fun o => noDefer o.op) = true := by decide +kernel
noncomputable def r59_4 : Array Oper := opsAt Tryd.f59 [1, 1, 0, 1, 0, 1, 0, 0]
theorem r59_4_ok : dstOk 27 r59_4.toList = true ∧ r59_4.toList.all (fun o => noDefer o.op) = true := by decide +kernel
noncomputable def r59_5 : Array Oper := opsAt Tryd.f59 [1, 1, 0, 1, 0, 1, 0, 1, 0]
theorem r59_5_ok : dstOk 27 r59_5.toList = true ∧ r59_5.toList.all (fun o => noDefer o.op) = true := by decide +kernel
noncomputable def r59_6 : Array Oper := opsAt Tryd.f59 [1, 1, 0, 1, 0, 1, 0, 1, 1, 0]
theorem r59_6_ok : dstOk 27 r59_6.toList = true ∧ r59_6.toList.all (fun o => noDefer o.op) = true := by decide +kernel
noncomputable def b59_0 : Code := (.region 3 r59_3 false)
noncomputable def b59_1 : Code := (.block 1 (.seq (.region 4 r59_4 false) (.seq (.region 5 r59_5 false) (.cond (.tmp 22) (.region 6 r59_6 false) .skip))))
noncomputable def r59_7 : Array Oper := opsAt Tryd.f59 [1, 1, 1, 0]
theorem r59_7_ok : dstOk 27 r59_7.toList = true ∧ r59_7.toList.all (fun o => noDefer o.op) = true := by decide +kernel
noncomputable def c59 : Code := (.seq (.region 0 r59_0 false) (.seq (.region 1 r59_1 false) (.seq (.seq (.region 2 r59_2 false) (.block 0 (.rangeFunc (.tmp 16) #[17] b59_0 b59_1))) (.seq (.region 7 r59_7 true) .ret))))
theorem body59 : Tryd.f59.body = some c59 := by kernel_rfl

def sel (pt kind : Int) (x : RuleR) : Bool := decide (x.pt = pt) && decide (x.kind = kind)
def cA (pt kind : Int) (rules : List RuleR) : Nat := (rules.filter (sel pt kind)).length
def cM (meets : RuleR → Bool) (pt kind : Int) (rules : List RuleR) : Nat := ((rules.filter (sel pt kind)).filter meets).length
theorem cA_bd (pt kind : Int) (rules : List RuleR) (i : Nat) : cA pt kind (rules.take i) ≤ i := by
  have := List.length_filter_le (sel pt kind) (rules.take i); unfold cA; have h := List.length_take_le i rules; omega
theorem cM_bd (meets : RuleR → Bool) (pt kind : Int) (rules : List RuleR) (i : Nat) : cM meets pt kind (rules.take i) ≤ i := by
  have h1 := List.length_filter_le meets ((rules.take i).filter (sel pt kind)); have h2 := cA_bd pt kind rules i; unfold cM; unfold cA at h2; omega
theorem cA_succ {pt kind : Int} {rules : List RuleR} {i : Nat} (h : i < rules.length) : cA pt kind (rules.take (i + 1)) = cA pt kind (rules.take i) + if sel pt kind rules[i] = true then 1 else 0 := by
  unfold cA; rw [List.take_succ_eq_append_getElem h, List.filter_append]; by_cases h2 : sel pt kind rules[i] = true <;> simp [h2]
theorem cM_succ {meets : RuleR → Bool} {pt kind : Int} {rules : List RuleR} {i : Nat} (h : i < rules.length) : cM meets pt kind (rules.take (i + 1)) = cM meets pt kind (rules.take i) + if sel pt kind rules[i] = true ∧ meets rules[i] = true then 1 else 0 := by
  unfold cM; rw [List.take_succ_eq_append_getElem h, List.filter_append]; by_cases h2 : sel pt kind rules[i] = true <;> by_cases h3 : meets rules[i] = true <;> simp [h2, h3]
def sF (b : Bool) (rules : List RuleR) (pt kind : Int) : Frm := [(7, .ptr 0 0), (10, .ptr 1 0), (11, .ptr 2 0), (16, .fn 109 [] [.rp [.sl 5 b (rules.map ruleAV)], .rp [.raw (.int .i64 pt)], .rp [.raw (.int .u8 kind)]])]
noncomputable def sL (b : Bool) (rules : List RuleR) (pt kind : Int) (st : LoopState) : LoopA := { state := st, pending := none, F := sF b rules pt kind, N := 27, params := #[17], assign := b59_0, body := b59_1 }
noncomputable def sH (b : Bool) (rules : List RuleR) (pt kind : Int) (g : FuncId) (caps : List AV) (a m : Nat) : Heap := [.var [.fn g [] caps], .var [.raw (.int .i64 (a : Int))], .var [.raw (.int .i64 (m : Int))], .loopo (sL b rules pt kind .ready)]

noncomputable def r109_0 : Array Oper := opsAt Tryd.f109 [0]
theorem r109_0_ok : dstOk 30 r109_0.toList = true ∧ r109_0.toList.all (fun o => noDefer o.op) = true := by decide +kernel
noncomputable def r109_1 : Array Oper := opsAt Tryd.f109 [1, 0, 0, 0]
theorem r109_1_ok : dstOk 30 r109_1.toList = true ∧ r109_1.toList.all (fun o => noDefer o.op) = true := by decide +kernel
noncomputable def r109_2 : Array Oper := opsAt Tryd.f109 [1, 0, 0, 1, 1, 0, 0, 0]
theorem r109_2_ok : dstOk 30 r109_2.toList = true ∧ r109_2.toList.all (fun o => noDefer o.op) = true := by decide +kernel
noncomputable def r109_3 : Array Oper := opsAt Tryd.f109 [1, 0, 0, 1, 1, 0, 0, 1, 0]
theorem r109_3_ok : dstOk 30 r109_3.toList = true ∧ r109_3.toList.all (fun o => noDefer o.op) = true := by decide +kernel
noncomputable def r109_4 : Array Oper := opsAt Tryd.f109 [1, 0, 0, 1, 1, 1]
theorem r109_4_ok : dstOk 30 r109_4.toList = true ∧ r109_4.toList.all (fun o => noDefer o.op) = true := by decide +kernel
noncomputable def b109_0 : Code := (.seq (.region 1 r109_1 false) (.seq (.cond (.tmp 10) .skip (.exit 0)) (.seq (.block 1 (.seq (.region 2 r109_2 false) (.seq (.region 3 r109_3 false) (.cond (.tmp 28) .ret .skip)))) (.region 4 r109_4 false))))
noncomputable def c109 : Code := (.seq (.region 0 r109_0 false) (.block 0 (.loop b109_0)))
theorem body109 : Tryd.f109.body = some c109 := by kernel_rfl
theorem of1_ok (b : Bool) (rules : List RuleR) (hl : rules.length ≤ 4611686018427387904) (pt kind : Int) (g : FuncId) (caps : List AV) (hcaps : ∀ x ∈ caps, Pur x) (hc : callable Tryd.prog g = true) (meets : RuleR → Bool) (hm : ∀ x ∈ rules, PureCall Tryd.prog GL g (ruleAV x :: caps) (.raw (.bool (meets x)))) :
    ACall Tryd.prog GL 109 [.yl 3, .rp [.sl 5 b (rules.map ruleAV)], .rp [.raw (.int .i64 pt)], .rp [.raw (.int .u8 kind)]] (sH b rules pt kind g caps (0) (0)) (fun r H' => r = .tup [] ∧ H' = sH b rules pt kind g caps (cA pt kind rules) (cM meets pt kind rules)) := by
  refine acall_of_body Tryd.func109 body109 (Nat.le_of_ble_eq_true rfl) ?_
  refine w_keep [(0, .yl 3), (1, .rp [.sl 5 b (rules.map ruleAV)]), (2, .rp [.raw (.int .i64 pt)]), (3, .rp [.raw (.int .u8 kind)])] ⟨rfl, rfl, rfl, rfl, trivial⟩ ?_
  unfold c109
  refine awp_seq ?_
  refine w_reg (l := r109_0.toList) rfl r109_0_ok ?_
  refine a_op rfl ((by first | exact o_ld tg32 rfl rfl | exact o_ldp tg32 rfl rfl rfl rfl)) ?_
  refine a_op rfl (o_len rfl rfl (by first | exact List.length_map .. | rfl) tl32) ?_
  refine a_op rfl (o_mv rfl) ?_
  refine a_nil ?_
  refine tq_n ?_
  refine awp_block ?_
  refine w_loop (fun i : Nat => i ≤ rules.length) (fun i => [(0, .yl 3), (1, .rp [.sl 5 b (rules.map ruleAV)]), (2, .rp [.raw (.int .i64 pt)]), (3, .rp [.raw (.int .u8 kind)]), (7, .sl 5 b (rules.map ruleAV)), (8, .raw (.int .i64 (rules.length : Int))), (9, .raw (.int .i64 (i : Int)))]) (fun i => sH b rules pt kind g caps (cA pt kind (rules.take i)) (cM meets pt kind (rules.take i))) (fun i => rules.length - i) (0) (by simp) ⟨(by first | exact sub_int rfl (by omega) | rfl), (by first | exact sub_int rfl (by omega) | rfl), (by first | exact sub_int rfl (by omega) | rfl), (by first | exact sub_int rfl (by omega) | rfl), (by first | exact sub_int rfl (by omega) | rfl), (by first | exact sub_int rfl (by omega) | rfl), (by first | exact sub_int rfl (by omega) | rfl), trivial⟩ rfl ?_
  intro i hp
  have hbA := cA_bd pt kind rules i; have hbM := cM_bd meets pt kind rules i
  unfold b109_0
  refine awp_seq ?_
  refine w_reg (l := r109_1.toList) rfl r109_1_ok ?_
  refine a_if rfl (o_lt rfl rfl) (fun h1 => ?_) (fun h2 => ?_)
  · refine a_nil ?_
    refine tq_n ?_
    refine awp_seq ?_
    refine w_true rfl ?_
    refine awp_skip ?_
    refine tq_n ?_
    refine awp_seq ?_
    refine awp_block ?_
    refine awp_seq ?_
    have hi : i < rules.length := by omega
    refine w_reg (l := r109_2.toList) rfl r109_2_ok ?_
    refine a_op rfl (o_ix te32 tn37 rfl rfl rfl (ixm _ _ _ (by omega))) ?_
    refine a_op rfl ((by first | exact o_ldg tg37 tn37 rfl rfl | exact o_ldpg tg37 tn37 rfl rfl rfl rfl)) ?_
    refine a_op rfl (o_al (N := 4) tz37 rfl rfl rfl) ?_
    refine a_op0 rfl (o_st (N := 4) tn37 rfl rfl rfl rfl rfl) ?_
    refine a_nil ?_
    refine tq_n ?_
    refine awp_seq ?_
    refine w_reg (l := r109_3.toList) rfl r109_3_ok ?_
    refine a_op rfl ((by first | exact o_fa tf37_0 rfl rfl | exact o_fap tf37_0 rfl rfl)) ?_
    refine a_op rfl ((by first | exact o_ld tg3 rfl rfl | exact o_ldp tg3 rfl rfl rfl rfl)) ?_
    refine a_op rfl ((by first | exact o_ld tg3 rfl rfl | exact o_ldp tg3 rfl rfl rfl rfl)) ?_
    refine a_if rfl (o_eq rfl rfl) (fun h3 => ?_) (fun h4 => ?_)
    · refine a_op rfl (o_mv rfl) ?_
      refine a_op rfl ((by first | exact o_fa tf37_1 rfl rfl | exact o_fap tf37_1 rfl rfl)) ?_
      refine a_op rfl ((by first | exact o_ld tg5 rfl rfl | exact o_ldp tg5 rfl rfl rfl rfl)) ?_
      refine a_op rfl ((by first | exact o_ld tg5 rfl rfl | exact o_ldp tg5 rfl rfl rfl rfl)) ?_
      refine a_if rfl (o_eq rfl rfl) (fun h5 => ?_) (fun h6 => ?_)
      · refine a_op rfl (o_pkt rfl rfl) ?_
        refine a_op rfl (o_mv rfl) ?_
        refine a_op rfl (o_mv rfl) ?_
        refine a_op rfl ((by first | exact o_ldg tg37 tn37 rfl rfl | exact o_ldpg tg37 tn37 rfl rfl rfl rfl)) ?_
        refine a_yield (N := 5) (l := sL b rules pt kind .ready) rfl rfl rfl rfl rfl rfl rfl rfl ?_
        show AWp _ b59_0 _ _ _
        unfold b59_0
        refine w_keep [(7, .ptr 0 0), (10, .ptr 1 0), (11, .ptr 2 0), (17, ruleAV (rules[i]'hi))] ⟨rfl, rfl, rfl, rfl, trivial⟩ ?_
        refine w_reg (l := r59_3.toList) rfl r59_3_ok ?_
        refine a_op rfl (o_al (N := 5) tz37 rfl rfl rfl) ?_
        refine a_op0 rfl (o_st (N := 4) tn37 rfl rfl rfl rfl rfl) ?_
        refine a_nil ?_
        refine tq_n ?_
        refine ⟨_, rfl, rfl, rfl, _, rfl, ?_⟩
        show AWp _ b59_1 _ _ _
        unfold b59_1
        refine awp_block ?_
        refine awp_seq ?_
        refine w_reg (l := r59_4.toList) rfl r59_4_ok ?_
        refine a_op rfl ((by first | exact o_ld tg3 rfl rfl | exact o_ldp tg3 rfl rfl rfl rfl)) ?_
        refine a_op rfl (o_add rfl rfl (by simp only [klo, khi]; omega)) ?_
        refine a_op0 rfl (o_st (N := 0) tn3 rfl rfl rfl rfl rfl) ?_
        refine a_nil ?_
        refine tq_n ?_
        refine awp_seq ?_
        refine w_reg (l := r59_5.toList) rfl r59_5_ok ?_
        refine a_op rfl ((by first | exact o_ld tg102 rfl rfl | exact o_ldp tg102 rfl rfl rfl rfl)) ?_
        refine a_op rfl ((by first | exact o_ldg tg37 tn37 rfl rfl | exact o_ldpg tg37 tn37 rfl rfl rfl rfl)) ?_
        refine a_pureb rfl rfl rfl hc (hm _ (List.getElem_mem hi)) (fun h7 => ?_) (fun h8 => ?_)
        · refine a_nil ?_
          refine tq_n ?_
          refine w_true rfl ?_
          refine w_reg (l := r59_6.toList) rfl r59_6_ok ?_
          refine a_op rfl ((by first | exact o_ld tg3 rfl rfl | exact o_ldp tg3 rfl rfl rfl rfl)) ?_
          refine a_op rfl (o_add rfl rfl (by simp only [klo, khi]; omega)) ?_
          refine a_op0 rfl (o_st (N := 0) tn3 rfl rfl rfl rfl rfl) ?_
          refine a_nil ?_
          refine bq_n ?_
          refine q_next (i := 3) rfl rfl ?_
          refine a_op rfl (o_ntt rfl) ?_
          refine a_op rfl (o_pkt rfl rfl) ?_
          refine a_nil ?_
          refine tq_n ?_
          refine w_false rfl ?_
          refine awp_skip ?_
          refine bq_n ?_
          refine tq_n ?_
          refine w_view [(0, .yl 3), (1, .rp [.sl 5 b (rules.map ruleAV)]), (2, .rp [.raw (.int .i64 pt)]), (3, .rp [.raw (.int .u8 kind)]), (7, .sl 5 b (rules.map ruleAV)), (8, .raw (.int .i64 (rules.length : Int))), (9, .raw (.int .i64 (i : Int)))] (sH b rules pt kind g caps (cA pt kind (rules.take i) + 1) (cM meets pt kind (rules.take i) + 1)) 4 rfl (Nat.le_of_ble_eq_true rfl) (Nat.le_of_ble_eq_true rfl) ⟨⟨_, rfl, (by first | exact .ylK (Nat.le_of_ble_eq_true rfl) | exact .ptrK (Nat.le_of_ble_eq_true rfl) | exact rs_pur (by simp) rfl)⟩, ⟨_, rfl, (by first | exact .ylK (Nat.le_of_ble_eq_true rfl) | exact .ptrK (Nat.le_of_ble_eq_true rfl) | exact rs_pur (by simp) rfl)⟩, ⟨_, rfl, (by first | exact .ylK (Nat.le_of_ble_eq_true rfl) | exact .ptrK (Nat.le_of_ble_eq_true rfl) | exact rs_pur (by simp) rfl)⟩, ⟨_, rfl, (by first | exact .ylK (Nat.le_of_ble_eq_true rfl) | exact .ptrK (Nat.le_of_ble_eq_true rfl) | exact rs_pur (by simp) rfl)⟩, ⟨_, rfl, (by first | exact .ylK (Nat.le_of_ble_eq_true rfl) | exact .ptrK (Nat.le_of_ble_eq_true rfl) | exact rs_pur (by simp) rfl)⟩, ⟨_, rfl, (by first | exact .ylK (Nat.le_of_ble_eq_true rfl) | exact .ptrK (Nat.le_of_ble_eq_true rfl) | exact rs_pur (by simp) rfl)⟩, ⟨_, rfl, (by first | exact .ylK (Nat.le_of_ble_eq_true rfl) | exact .ptrK (Nat.le_of_ble_eq_true rfl) | exact rs_pur (by simp) rfl)⟩, trivial⟩ ⟨ors_var ⟨rs_pur (by simpa using hcaps) rfl, trivial⟩, ors_var ⟨rs_pur (by simp) rfl, trivial⟩, ors_var ⟨rs_pur (by simp) rfl, trivial⟩, ors_loop (l := sL b rules pt kind .ready) (F' := sF b rules pt kind) ⟨⟨_, rfl, (by first | exact .ylK (Nat.le_of_ble_eq_true rfl) | exact .ptrK (Nat.le_of_ble_eq_true rfl) | exact rs_pur (by simp) rfl)⟩, ⟨_, rfl, (by first | exact .ylK (Nat.le_of_ble_eq_true rfl) | exact .ptrK (Nat.le_of_ble_eq_true rfl) | exact rs_pur (by simp) rfl)⟩, ⟨_, rfl, (by first | exact .ylK (Nat.le_of_ble_eq_true rfl) | exact .ptrK (Nat.le_of_ble_eq_true rfl) | exact rs_pur (by simp) rfl)⟩, ⟨_, rfl, (by first | exact .ylK (Nat.le_of_ble_eq_true rfl) | exact .ptrK (Nat.le_of_ble_eq_true rfl) | exact rs_pur (by simp) rfl)⟩, trivial⟩, trivial⟩ ?_
          refine w_reg (l := r109_4.toList) rfl r109_4_ok ?_
          refine a_op rfl (o_add rfl rfl (by simp only [klo, khi]; omega)) ?_
          refine a_op rfl (o_mv rfl) ?_
          refine a_nil ?_
          refine tq_n ?_
          exact ⟨i + 1, ⟨by omega, by omega⟩, ⟨(by first | exact sub_int rfl (by omega) | rfl), (by first | exact sub_int rfl (by omega) | rfl), (by first | exact sub_int rfl (by omega) | rfl), (by first | exact sub_int rfl (by omega) | rfl), (by first | exact sub_int rfl (by omega) | rfl), (by first | exact sub_int rfl (by omega) | rfl), (by first | exact sub_int rfl (by omega) | rfl), trivial⟩, by rw [cA_succ (by omega), cM_succ (by omega)]; simp [sel, *]⟩
        · refine a_nil ?_
          refine tq_n ?_
          refine w_false rfl ?_
          refine awp_skip ?_
          refine bq_n ?_
          refine q_next (i := 3) rfl rfl ?_
          refine a_op rfl (o_ntt rfl) ?_
          refine a_op rfl (o_pkt rfl rfl) ?_
          refine a_nil ?_
          refine tq_n ?_
          refine w_false rfl ?_
          refine awp_skip ?_
          refine bq_n ?_
          refine tq_n ?_
          refine w_view [(0, .yl 3), (1, .rp [.sl 5 b (rules.map ruleAV)]), (2, .rp [.raw (.int .i64 pt)]), (3, .rp [.raw (.int .u8 kind)]), (7, .sl 5 b (rules.map ruleAV)), (8, .raw (.int .i64 (rules.length : Int))), (9, .raw (.int .i64 (i : Int)))] (sH b rules pt kind g caps (cA pt kind (rules.take i) + 1) (cM meets pt kind (rules.take i))) 4 rfl (Nat.le_of_ble_eq_true rfl) (Nat.le_of_ble_eq_true rfl) ⟨⟨_, rfl, (by first | exact .ylK (Nat.le_of_ble_eq_true rfl) | exact .ptrK (Nat.le_of_ble_eq_true rfl) | exact rs_pur (by simp) rfl)⟩, ⟨_, rfl, (by first | exact .ylK (Nat.le_of_ble_eq_true rfl) | exact .ptrK (Nat.le_of_ble_eq_true rfl) | exact rs_pur (by simp) rfl)⟩, ⟨_, rfl, (by first | exact .ylK (Nat.le_of_ble_eq_true rfl) | exact .ptrK (Nat.le_of_ble_eq_true rfl) | exact rs_pur (by simp) rfl)⟩, ⟨_, rfl, (by first | exact .ylK (Nat.le_of_ble_eq_true rfl) | exact .ptrK (Nat.le_of_ble_eq_true rfl) | exact rs_pur (by simp) rfl)⟩, ⟨_, rfl, (by first | exact .ylK (Nat.le_of_ble_eq_true rfl) | exact .ptrK (Nat.le_of_ble_eq_true rfl) | exact rs_pur (by simp) rfl)⟩, ⟨_, rfl, (by first | exact .ylK (Nat.le_of_ble_eq_true rfl) | exact .ptrK (Nat.le_of_ble_eq_true rfl) | exact rs_pur (by simp) rfl)⟩, ⟨_, rfl, (by first | exact .ylK (Nat.le_of_ble_eq_true rfl) | exact .ptrK (Nat.le_of_ble_eq_true rfl) | exact rs_pur (by simp) rfl)⟩, trivial⟩ ⟨ors_var ⟨rs_pur (by simpa using hcaps) rfl, trivial⟩, ors_var ⟨rs_pur (by simp) rfl, trivial⟩, ors_var ⟨rs_pur (by simp) rfl, trivial⟩, ors_loop (l := sL b rules pt kind .ready) (F' := sF b rules pt kind) ⟨⟨_, rfl, (by first | exact .ylK (Nat.le_of_ble_eq_true rfl) | exact .ptrK (Nat.le_of_ble_eq_true rfl) | exact rs_pur (by simp) rfl)⟩, ⟨_, rfl, (by first | exact .ylK (Nat.le_of_ble_eq_true rfl) | exact .ptrK (Nat.le_of_ble_eq_true rfl) | exact rs_pur (by simp) rfl)⟩, ⟨_, rfl, (by first | exact .ylK (Nat.le_of_ble_eq_true rfl) | exact .ptrK (Nat.le_of_ble_eq_true rfl) | exact rs_pur (by simp) rfl)⟩, ⟨_, rfl, (by first | exact .ylK (Nat.le_of_ble_eq_true rfl) | exact .ptrK (Nat.le_of_ble_eq_true rfl) | exact rs_pur (by simp) rfl)⟩, trivial⟩, trivial⟩ ?_
          refine w_reg (l := r109_4.toList) rfl r109_4_ok ?_
          refine a_op rfl (o_add rfl rfl (by simp only [klo, khi]; omega)) ?_
          refine a_op rfl (o_mv rfl) ?_
          refine a_nil ?_
          refine tq_n ?_
          exact ⟨i + 1, ⟨by omega, by omega⟩, ⟨(by first | exact sub_int rfl (by omega) | rfl), (by first | exact sub_int rfl (by omega) | rfl), (by first | exact sub_int rfl (by omega) | rfl), (by first | exact sub_int rfl (by omega) | rfl), (by first | exact sub_int rfl (by omega) | rfl), (by first | exact sub_int rfl (by omega) | rfl), (by first | exact sub_int rfl (by omega) | rfl), trivial⟩, by rw [cA_succ (by omega), cM_succ (by omega)]; simp [sel, *]⟩
      · refine a_op rfl (o_pkt rfl rfl) ?_
        refine a_op rfl (o_mv rfl) ?_
        refine a_off rfl ?_
        refine a_off rfl ?_
        refine a_off rfl ?_
        refine a_off rfl ?_
        refine a_op rfl (o_pkf rfl rfl) ?_
        refine a_nil ?_
        refine tq_n ?_
        refine w_false rfl ?_
        refine awp_skip ?_
        refine bq_n ?_
        refine tq_n ?_
        refine w_view [(0, .yl 3), (1, .rp [.sl 5 b (rules.map ruleAV)]), (2, .rp [.raw (.int .i64 pt)]), (3, .rp [.raw (.int .u8 kind)]), (7, .sl 5 b (rules.map ruleAV)), (8, .raw (.int .i64 (rules.length : Int))), (9, .raw (.int .i64 (i : Int)))] (sH b rules pt kind g caps (cA pt kind (rules.take i)) (cM meets pt kind (rules.take i))) 4 rfl (Nat.le_of_ble_eq_true rfl) (Nat.le_of_ble_eq_true rfl) ⟨⟨_, rfl, (by first | exact .ylK (Nat.le_of_ble_eq_true rfl) | exact .ptrK (Nat.le_of_ble_eq_true rfl) | exact rs_pur (by simp) rfl)⟩, ⟨_, rfl, (by first | exact .ylK (Nat.le_of_ble_eq_true rfl) | exact .ptrK (Nat.le_of_ble_eq_true rfl) | exact rs_pur (by simp) rfl)⟩, ⟨_, rfl, (by first | exact .ylK (Nat.le_of_ble_eq_true rfl) | exact .ptrK (Nat.le_of_ble_eq_true rfl) | exact rs_pur (by simp) rfl)⟩, ⟨_, rfl, (by first | exact .ylK (Nat.le_of_ble_eq_true rfl) | exact .ptrK (Nat.le_of_ble_eq_true rfl) | exact rs_pur (by simp) rfl)⟩, ⟨_, rfl, (by first | exact .ylK (Nat.le_of_ble_eq_true rfl) | exact .ptrK (Nat.le_of_ble_eq_true rfl) | exact rs_pur (by simp) rfl)⟩, ⟨_, rfl, (by first | exact .ylK (Nat.le_of_ble_eq_true rfl) | exact .ptrK (Nat.le_of_ble_eq_true rfl) | exact rs_pur (by simp) rfl)⟩, ⟨_, rfl, (by first | exact .ylK (Nat.le_of_ble_eq_true rfl) | exact .ptrK (Nat.le_of_ble_eq_true rfl) | exact rs_pur (by simp) rfl)⟩, trivial⟩ ⟨ors_var ⟨rs_pur (by simpa using hcaps) rfl, trivial⟩, ors_var ⟨rs_pur (by simp) rfl, trivial⟩, ors_var ⟨rs_pur (by simp) rfl, trivial⟩, ors_loop (l := sL b rules pt kind .ready) (F' := sF b rules pt kind) ⟨⟨_, rfl, (by first | exact .ylK (Nat.le_of_ble_eq_true rfl) | exact .ptrK (Nat.le_of_ble_eq_true rfl) | exact rs_pur (by simp) rfl)⟩, ⟨_, rfl, (by first | exact .ylK (Nat.le_of_ble_eq_true rfl) | exact .ptrK (Nat.le_of_ble_eq_true rfl) | exact rs_pur (by simp) rfl)⟩, ⟨_, rfl, (by first | exact .ylK (Nat.le_of_ble_eq_true rfl) | exact .ptrK (Nat.le_of_ble_eq_true rfl) | exact rs_pur (by simp) rfl)⟩, ⟨_, rfl, (by first | exact .ylK (Nat.le_of_ble_eq_true rfl) | exact .ptrK (Nat.le_of_ble_eq_true rfl) | exact rs_pur (by simp) rfl)⟩, trivial⟩, trivial⟩ ?_
        refine w_reg (l := r109_4.toList) rfl r109_4_ok ?_
        refine a_op rfl (o_add rfl rfl (by simp only [klo, khi]; omega)) ?_
        refine a_op rfl (o_mv rfl) ?_
        refine a_nil ?_
        refine tq_n ?_
        exact ⟨i + 1, ⟨by omega, by omega⟩, ⟨(by first | exact sub_int rfl (by omega) | rfl), (by first | exact sub_int rfl (by omega) | rfl), (by first | exact sub_int rfl (by omega) | rfl), (by first | exact sub_int rfl (by omega) | rfl), (by first | exact sub_int rfl (by omega) | rfl), (by first | exact sub_int rfl (by omega) | rfl), (by first | exact sub_int rfl (by omega) | rfl), trivial⟩, by rw [cA_succ (by omega), cM_succ (by omega)]; simp [sel, *]⟩
    · refine a_op rfl (o_mv rfl) ?_
      refine a_off rfl ?_
      refine a_off rfl ?_
      refine a_off rfl ?_
      refine a_off rfl ?_
      refine a_op rfl (o_pkf rfl rfl) ?_
      refine a_op rfl (o_mv rfl) ?_
      refine a_off rfl ?_
      refine a_off rfl ?_
      refine a_off rfl ?_
      refine a_off rfl ?_
      refine a_op rfl (o_pkf rfl rfl) ?_
      refine a_nil ?_
      refine tq_n ?_
      refine w_false rfl ?_
      refine awp_skip ?_
      refine bq_n ?_
      refine tq_n ?_
      refine w_view [(0, .yl 3), (1, .rp [.sl 5 b (rules.map ruleAV)]), (2, .rp [.raw (.int .i64 pt)]), (3, .rp [.raw (.int .u8 kind)]), (7, .sl 5 b (rules.map ruleAV)), (8, .raw (.int .i64 (rules.length : Int))), (9, .raw (.int .i64 (i : Int)))] (sH b rules pt kind g caps (cA pt kind (rules.take i)) (cM meets pt kind (rules.take i))) 4 rfl (Nat.le_of_ble_eq_true rfl) (Nat.le_of_ble_eq_true rfl) ⟨⟨_, rfl, (by first | exact .ylK (Nat.le_of_ble_eq_true rfl) | exact .ptrK (Nat.le_of_ble_eq_true rfl) | exact rs_pur (by simp) rfl)⟩, ⟨_, rfl, (by first | exact .ylK (Nat.le_of_ble_eq_true rfl) | exact .ptrK (Nat.le_of_ble_eq_true rfl) | exact rs_pur (by simp) rfl)⟩, ⟨_, rfl, (by first | exact .ylK (Nat.le_of_ble_eq_true rfl) | exact .ptrK (Nat.le_of_ble_eq_true rfl) | exact rs_pur (by simp) rfl)⟩, ⟨_, rfl, (by first | exact .ylK (Nat.le_of_ble_eq_true rfl) | exact .ptrK (Nat.le_of_ble_eq_true rfl) | exact rs_pur (by simp) rfl)⟩, ⟨_, rfl, (by first | exact .ylK (Nat.le_of_ble_eq_true rfl) | exact .ptrK (Nat.le_of_ble_eq_true rfl) | exact rs_pur (by simp) rfl)⟩, ⟨_, rfl, (by first | exact .ylK (Nat.le_of_ble_eq_true rfl) | exact .ptrK (Nat.le_of_ble_eq_true rfl) | exact rs_pur (by simp) rfl)⟩, ⟨_, rfl, (by first | exact .ylK (Nat.le_of_ble_eq_true rfl) | exact .ptrK (Nat.le_of_ble_eq_true rfl) | exact rs_pur (by simp) rfl)⟩, trivial⟩ ⟨ors_var ⟨rs_pur (by simpa using hcaps) rfl, trivial⟩, ors_var ⟨rs_pur (by simp) rfl, trivial⟩, ors_var ⟨rs_pur (by simp) rfl, trivial⟩, ors_loop (l := sL b rules pt kind .ready) (F' := sF b rules pt kind) ⟨⟨_, rfl, (by first | exact .ylK (Nat.le_of_ble_eq_true rfl) | exact .ptrK (Nat.le_of_ble_eq_true rfl) | exact rs_pur (by simp) rfl)⟩, ⟨_, rfl, (by first | exact .ylK (Nat.le_of_ble_eq_true rfl) | exact .ptrK (Nat.le_of_ble_eq_true rfl) | exact rs_pur (by simp) rfl)⟩, ⟨_, rfl, (by first | exact .ylK (Nat.le_of_ble_eq_true rfl) | exact .ptrK (Nat.le_of_ble_eq_true rfl) | exact rs_pur (by simp) rfl)⟩, ⟨_, rfl, (by first | exact .ylK (Nat.le_of_ble_eq_true rfl) | exact .ptrK (Nat.le_of_ble_eq_true rfl) | exact rs_pur (by simp) rfl)⟩, trivial⟩, trivial⟩ ?_
      refine w_reg (l := r109_4.toList) rfl r109_4_ok ?_
      refine a_op rfl (o_add rfl rfl (by simp only [klo, khi]; omega)) ?_
      refine a_op rfl (o_mv rfl) ?_
      refine a_nil ?_
      refine tq_n ?_
      exact ⟨i + 1, ⟨by omega, by omega⟩, ⟨(by first | exact sub_int rfl (by omega) | rfl), (by first | exact sub_int rfl (by omega) | rfl), (by first | exact sub_int rfl (by omega) | rfl), (by first | exact sub_int rfl (by omega) | rfl), (by first | exact sub_int rfl (by omega) | rfl), (by first | exact sub_int rfl (by omega) | rfl), (by first | exact sub_int rfl (by omega) | rfl), trivial⟩, by rw [cA_succ (by omega), cM_succ (by omega)]; simp [sel, *]⟩
  · refine a_nil ?_
    refine tq_n ?_
    refine awp_seq ?_
    refine w_false rfl ?_
    refine awp_exit ?_
    refine tq_x ?_
    refine tq_x ?_
    refine bq_hit ?_
    refine r_norm ?_
    refine r_none rfl trivial ?_
    refine ⟨rfl, ?_⟩
    rw [show i = rules.length by omega, List.take_length]
theorem says_ok (b : Bool) (rules : List RuleR) (hl : rules.length ≤ 4611686018427387904) (pt kind : Int) (g : FuncId) (caps : List AV) (hcaps : ∀ x ∈ caps, Pur x) (hc : callable Tryd.prog g = true) (meets : RuleR → Bool) (hm : ∀ x ∈ rules, PureCall Tryd.prog GL g (ruleAV x :: caps) (.raw (.bool (meets x)))) : PureCall Tryd.prog GL 59 [.sl 5 b (rules.map ruleAV), .raw (.int .i64 pt), .raw (.int .u8 kind), .fn g [] caps] (.tup [.raw (.int .i64 (cA pt kind rules : Int)), .raw (.int .i64 (cM meets pt kind rules : Int))]) := by
  refine pure_of_body Tryd.func59 body59 (Nat.le_of_ble_eq_true rfl) (by simpa using hcaps) (by simp) ?_
  refine w_keep [(0, .sl 5 b (rules.map ruleAV)), (1, .raw (.int .i64 pt)), (2, .raw (.int .u8 kind)), (3, .fn g [] caps)] ⟨rfl, rfl, rfl, rfl, trivial⟩ ?_
  unfold c59
  refine awp_seq ?_
  refine w_reg (l := r59_0.toList) rfl r59_0_ok ?_
  refine a_op rfl (o_box (N := 0) rfl (by rfl) rfl rfl) ?_
  refine a_op rfl (o_as rfl) ?_
  refine a_op rfl (o_as rfl) ?_
  refine a_nil ?_
  refine tq_n ?_
  refine awp_seq ?_
  refine w_reg (l := r59_1.toList) rfl r59_1_ok ?_
  refine a_op rfl (o_al (N := 1) tz3 rfl rfl rfl) ?_
  refine a_op rfl (o_al (N := 2) tz3 rfl rfl rfl) ?_
  refine a_op0 rfl (o_st (N := 0) tn3 rfl rfl rfl rfl rfl) ?_
  refine a_op0 rfl (o_st (N := 0) tn3 rfl rfl rfl rfl rfl) ?_
  refine a_nil ?_
  refine tq_n ?_
  refine awp_seq ?_
  refine awp_seq ?_
  refine w_reg (l := r59_2.toList) rfl r59_2_ok ?_
  refine a_op rfl (o_mv rfl) ?_
  refine a_op rfl (o_mv rfl) ?_
  refine a_op rfl (o_mv rfl) ?_
  refine a_pure rfl rfl rfl cb88 (of_ok _ _ _ _) ?_
  refine a_nil ?_
  refine tq_n ?_
  refine awp_block ?_
  refine w_keep (sF b rules pt kind) ⟨rfl, rfl, rfl, rfl, trivial⟩ ?_
  refine awp_rangeFunc (R := fun r H' => r = .tup [] ∧ H' = sH b rules pt kind g caps (cA pt kind rules) (cM meets pt kind rules)) rfl (evx_eq (v := .fn 109 [] [.rp [.sl 5 b (rules.map ruleAV)], .rp [.raw (.int .i64 pt)], .rp [.raw (.int .u8 kind)]]) rfl) cb109 (of1_ok b rules hl pt kind g caps hcaps hc meets hm).calls ?_
  rintro r H' ⟨rfl, rfl⟩
  refine after_end (l := sL b rules pt kind .ready) rfl rfl rfl rfl ?_
  refine bq_n ?_
  refine tq_n ?_
  refine awp_seq ?_
  refine awp_draw ⟨[[], [], [0], [0, 1, 2]], [[10], [11], [25], [26]], [[1], [2], [], []], [none, none, none, none]⟩ mo r59_7_ok (by decide +kernel) (l := r59_7.toList) rfl ?_
  refine d_op rfl rfl rfl (fun _ => (by first | exact o_ld tg3 rfl rfl | exact o_ldp tg3 rfl rfl rfl rfl)) ?_
  refine d_op rfl rfl rfl (fun _ => (by first | exact o_ld tg3 rfl rfl | exact o_ldp tg3 rfl rfl rfl rfl)) ?_
  refine d_op rfl rfl rfl (fun _ => o_as rfl) ?_
  refine d_op rfl rfl rfl (fun _ => o_as rfl) ?_
  refine d_nil ?_
  refine tq_n ?_
  refine awp_ret ?_
  refine r_tup (xs := []) rfl ⟨rfl, rfl, trivial⟩ ?_
  exact rs_pur (by simp) rfl
end Go.Ab.D
