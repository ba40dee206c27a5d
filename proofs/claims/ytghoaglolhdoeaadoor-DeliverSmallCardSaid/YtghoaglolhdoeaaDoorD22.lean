/- What functions of this program compute, and the laws of what they compute, under the bounds on lengths that each contract states. -/
import Derived.Test.YtghoaglolhdoeaaDoorD21
set_option linter.unusedSimpArgs false
set_option linter.unusedVariables false
namespace Go.Ab.D
open Go Go.Ab Go.Proofs
def rV (n day : Int) (x : RuleR) : Bool := sel n 2 x && vacB day x
def rN (n day : Int) (x : RuleR) : Bool := sel n 1 x && seaB day x
def rK (n day : Int) (x : RuleR) : Bool := sel n 3 x && wekB day x
theorem wek_and {x : RuleR} (h0 : 0 ≤ x.days) (h1 : x.days ≤ 255) (day : Int) : wekB day x = decide (andP x.days (wk day).toNat ≠ 0) := by
  have hw := wk_lt day
  unfold wekB wkB
  rw [Bool.eq_iff_iff, decide_eq_true_eq, decide_eq_true_eq, andP_ne (by omega), Nat.min_eq_left (by omega)]
theorem findP_id {pts : List PtR} {n : Int} {p : PtR} (h : findP pts n = some p) : p.id = n := by
  unfold findP at h; simpa using List.find?_some h
theorem stV_eq {pts : List PtR} {rules : List RuleR} {hol : List Int} {n day : Int} {p : PtR} (hw : wrF hol day = 0) (hf : findP pts n = some p) (k : Nat) (hk : rules.length ≤ k) :
    stV pts rules hol n day = if fB (rV n day) rules k = true then 3 else if (fB (sel n 1) rules k = true ∧ fB (rN n day) rules k = false) ∨ (fB (sel n 3) rules k = true ∧ fB (rK n day) rules k = false) ∨ (p.street = 0 ∧ day ∈ hol) then 2 else 1 := by
  have hid := findP_id hf
  have hV : (0 < cM (vacB day) n 2 rules) ↔ fB (rV n day) rules k = true := by rw [cM_any, fB_all hk]; rfl
  have hS : (0 < cA n 1 rules) ↔ fB (sel n 1) rules k = true := by rw [cA_any, fB_all hk]
  have hW : (0 < cA n 3 rules) ↔ fB (sel n 3) rules k = true := by rw [cA_any, fB_all hk]
  have hN : (0 < cM (seaB day) n 1 rules) ↔ fB (rN n day) rules k = true := by rw [cM_any, fB_all hk]; rfl
  have hK : (0 < cM (wekB day) n 3 rules) ↔ fB (rK n day) rules k = true := by rw [cM_any, fB_all hk]; rfl
  unfold stV
  rw [if_neg (by omega), hf]
  simp only [Option.isSome_some, if_true, Option.getD_some]
  unfold statF
  rw [hid]
  by_cases c1 : fB (rV n day) rules k = true
  · rw [if_pos c1, if_pos (by have := hV.2 c1; omega)]
  · rw [if_neg c1, if_neg (by have := mt hV.1 c1; omega)]
    congr 1
    simp only [eq_iff_iff]
    rw [← hS, ← hW]
    have n1 : fB (rN n day) rules k = false ↔ (cM (seaB day) n 1 rules : Int) = 0 := by rw [← Bool.not_eq_true, ← hN]; omega
    have n2 : fB (rK n day) rules k = false ↔ (cM (wekB day) n 3 rules : Int) = 0 := by rw [← Bool.not_eq_true, ← hK]; omega
    rw [n1, n2]
    have z1 : ((cA n 1 rules : Nat) : Int) > 0 ↔ 0 < cA n 1 rules := by omega
    have z2 : ((cA n 3 rules : Nat) : Int) > 0 ↔ 0 < cA n 3 rules := by omega
    rw [z1, z2]
theorem stV_none {pts : List PtR} {rules : List RuleR} {hol : List Int} {n day : Int} (hf : findP pts n = none) : stV pts rules hol n day = 0 := by
  unfold stV; split
  · rfl
  · rw [hf]; rfl
theorem fB_mono {g : RuleR → Bool} {R : List RuleR} {k : Nat} (h : k < R.length) (hg : g R[k] = true) {j : Nat} (hj : R.length ≤ j) : fB g R j = true := by
  rw [fB_all hj, List.any_eq_true]; exact ⟨_, List.getElem_mem h, hg⟩
theorem yrE0 (f t : Int) : yrE 0 f t = 0 ↔ yd f = true ∧ yd t = true := by
  have hw : wi 0 730484 = 0 := by decide
  unfold yd yrE
  simp only [hw, ne_eq, not_true_eq_false, if_false, decide_eq_true_eq, and_self]
  by_cases h1 : dated 2004 (f.tdiv 100) (f.tmod 100) = true <;> by_cases h2 : dated 2004 (t.tdiv 100) (t.tmod 100) = true <;> simp [h1, h2]

theorem hol_next {hol : List Int} {day : Int} {q : Prop} {k : Nat} (h : k < hol.length) (hb : ∀ y ∈ hol.take k, y = day → q) (hn : hol[k] = day → q) : ∀ y ∈ hol.take (k + 1), y = day → q := by
  intro y hy
  rw [List.take_succ_eq_append_getElem h] at hy
  rcases List.mem_append.1 hy with hy | hy
  · exact hb y hy
  · rw [List.mem_singleton.1 hy]; exact hn

noncomputable def r54_0 : Array Oper := opsAt Tryd.f54 [0]
theorem r54_0_ok : dstOk 124 r54_0.toList = true ∧ r54_0.toList.all (fun o => noDefer o.op) = true := by decide +kernel
noncomputable def r54_1 : Array Oper := opsAt Tryd.f54 [1, 0]
theorem r54_1_ok : dstOk 124 r54_1.toList = true ∧ r54_1.toList.all (fun o => noDefer o.op) = true := by decide +kernel
noncomputable def r54_2 : Array Oper := opsAt Tryd.f54 [1, 1, 0, 0]
theorem r54_2_ok : dstOk 124 r54_2.toList = true ∧ r54_2.toList.all (fun o => noDefer o.op) = true := by decide +kernel
noncomputable def r54_3 : Array Oper := opsAt Tryd.f54 [1, 1, 0, 1, 0, 0]
theorem r54_3_ok : dstOk 124 r54_3.toList = true ∧ r54_3.toList.all (fun o => noDefer o.op) = true := by decide +kernel
noncomputable def r54_4 : Array Oper := opsAt Tryd.f54 [1, 1, 1, 0]
theorem r54_4_ok : dstOk 124 r54_4.toList = true ∧ r54_4.toList.all (fun o => noDefer o.op) = true := by decide +kernel
noncomputable def r54_5 : Array Oper := opsAt Tryd.f54 [1, 1, 1, 1, 0, 0]
theorem r54_5_ok : dstOk 124 r54_5.toList = true ∧ r54_5.toList.all (fun o => noDefer o.op) = true := by decide +kernel
noncomputable def r54_6 : Array Oper := opsAt Tryd.f54 [1, 1, 1, 1, 0, 1, 0, 0]
theorem r54_6_ok : dstOk 124 r54_6.toList = true ∧ r54_6.toList.all (fun o => noDefer o.op) = true := by decide +kernel
noncomputable def r54_7 : Array Oper := opsAt Tryd.f54 [1, 1, 1, 1, 1, 0]
theorem r54_7_ok : dstOk 124 r54_7.toList = true ∧ r54_7.toList.all (fun o => noDefer o.op) = true := by decide +kernel
noncomputable def r54_8 : Array Oper := opsAt Tryd.f54 [1, 1, 1, 1, 1, 1, 0, 0]
theorem r54_8_ok : dstOk 124 r54_8.toList = true ∧ r54_8.toList.all (fun o => noDefer o.op) = true := by decide +kernel
noncomputable def r54_9 : Array Oper := opsAt Tryd.f54 [1, 1, 1, 1, 1, 1, 0, 1, 0, 0, 0, 0]
theorem r54_9_ok : dstOk 124 r54_9.toList = true ∧ r54_9.toList.all (fun o => noDefer o.op) = true := by decide +kernel
noncomputable def r54_11 : Array Oper := opsAt Tryd.f54 [1, 1, 1, 1, 1, 1, 0, 1, 0, 0, 1, 0, 0, 0]
theorem r54_11_ok : dstOk 124 r54_11.toList = true ∧ r54_11.toList.all (fun o => noDefer o.op) = true := by decide +kernel
noncomputable def r54_12 : Array Oper := opsAt Tryd.f54 [1, 1, 1, 1, 1, 1, 0, 1, 0, 0, 1, 0, 0, 1, 0, 0]
theorem r54_12_ok : dstOk 124 r54_12.toList = true ∧ r54_12.toList.all (fun o => noDefer o.op) = true := by decide +kernel
noncomputable def r54_13 : Array Oper := opsAt Tryd.f54 [1, 1, 1, 1, 1, 1, 0, 1, 0, 0, 1, 0, 0, 1, 1, 0, 0]
theorem r54_13_ok : dstOk 124 r54_13.toList = true ∧ r54_13.toList.all (fun o => noDefer o.op) = true := by decide +kernel
noncomputable def r54_14 : Array Oper := opsAt Tryd.f54 [1, 1, 1, 1, 1, 1, 0, 1, 0, 0, 1, 0, 0, 1, 1, 0, 1, 0, 0]
theorem r54_14_ok : dstOk 124 r54_14.toList = true ∧ r54_14.toList.all (fun o => noDefer o.op) = true := by decide +kernel
noncomputable def r54_15 : Array Oper := opsAt Tryd.f54 [1, 1, 1, 1, 1, 1, 0, 1, 0, 0, 1, 0, 0, 1, 1, 1, 0, 0]
theorem r54_15_ok : dstOk 124 r54_15.toList = true ∧ r54_15.toList.all (fun o => noDefer o.op) = true := by decide +kernel
noncomputable def r54_16 : Array Oper := opsAt Tryd.f54 [1, 1, 1, 1, 1, 1, 0, 1, 0, 0, 1, 0, 0, 1, 1, 1, 0, 1, 0, 0]
theorem r54_16_ok : dstOk 124 r54_16.toList = true ∧ r54_16.toList.all (fun o => noDefer o.op) = true := by decide +kernel
noncomputable def r54_17 : Array Oper := opsAt Tryd.f54 [1, 1, 1, 1, 1, 1, 0, 1, 0, 0, 1, 0, 0, 1, 1, 1, 0, 1, 0, 1, 0]
theorem r54_17_ok : dstOk 124 r54_17.toList = true ∧ r54_17.toList.all (fun o => noDefer o.op) = true := by decide +kernel
noncomputable def r54_18 : Array Oper := opsAt Tryd.f54 [1, 1, 1, 1, 1, 1, 0, 1, 0, 0, 1, 0, 0, 1, 1, 1, 0, 1, 0, 1, 1]
theorem r54_18_ok : dstOk 124 r54_18.toList = true ∧ r54_18.toList.all (fun o => noDefer o.op) = true := by decide +kernel
noncomputable def r54_19 : Array Oper := opsAt Tryd.f54 [1, 1, 1, 1, 1, 1, 0, 1, 0, 0, 1, 0, 0, 1, 1, 1, 1, 0]
theorem r54_19_ok : dstOk 124 r54_19.toList = true ∧ r54_19.toList.all (fun o => noDefer o.op) = true := by decide +kernel
noncomputable def r54_20 : Array Oper := opsAt Tryd.f54 [1, 1, 1, 1, 1, 1, 0, 1, 0, 0, 1, 0, 0, 1, 1, 1, 1, 1, 0, 0]
theorem r54_20_ok : dstOk 124 r54_20.toList = true ∧ r54_20.toList.all (fun o => noDefer o.op) = true := by decide +kernel
noncomputable def r54_21 : Array Oper := opsAt Tryd.f54 [1, 1, 1, 1, 1, 1, 0, 1, 0, 0, 1, 0, 0, 1, 1, 1, 1, 1, 0, 1]
theorem r54_21_ok : dstOk 124 r54_21.toList = true ∧ r54_21.toList.all (fun o => noDefer o.op) = true := by decide +kernel
noncomputable def r54_10 : Array Oper := opsAt Tryd.f54 [1, 1, 1, 1, 1, 1, 0, 1, 0, 0, 1, 1]
theorem r54_10_ok : dstOk 124 r54_10.toList = true ∧ r54_10.toList.all (fun o => noDefer o.op) = true := by decide +kernel
noncomputable def b54_0 : Code := (.seq (.seq (.region 9 r54_9 false) (.cond (.tmp 37) .skip (.exit 0))) (.seq (.block 1 (.seq (.region 11 r54_11 false) (.seq (.seq (.region 12 r54_12 false) (.cond (.tmp 47) (.exit 1) .skip)) (.seq (.seq (.region 13 r54_13 false) (.cond (.tmp 62) (.seq (.region 14 r54_14 false) .ret) .skip)) (.seq (.seq (.region 15 r54_15 false) (.cond (.tmp 65) (.seq (.region 16 r54_16 false) (.seq (.region 17 r54_17 false) (.region 18 r54_18 false))) .skip)) (.seq (.region 19 r54_19 false) (.cond (.tmp 81) (.seq (.region 20 r54_20 false) (.region 21 r54_21 true)) .skip))))))) (.region 10 r54_10 false)))
noncomputable def r54_22 : Array Oper := opsAt Tryd.f54 [1, 1, 1, 1, 1, 1, 1, 0, 0]
theorem r54_22_ok : dstOk 124 r54_22.toList = true ∧ r54_22.toList.all (fun o => noDefer o.op) = true := by decide +kernel
noncomputable def r54_23 : Array Oper := opsAt Tryd.f54 [1, 1, 1, 1, 1, 1, 1, 0, 1, 0, 0]
theorem r54_23_ok : dstOk 124 r54_23.toList = true ∧ r54_23.toList.all (fun o => noDefer o.op) = true := by decide +kernel
noncomputable def r54_24 : Array Oper := opsAt Tryd.f54 [1, 1, 1, 1, 1, 1, 1, 1, 0, 0]
theorem r54_24_ok : dstOk 124 r54_24.toList = true ∧ r54_24.toList.all (fun o => noDefer o.op) = true := by decide +kernel
noncomputable def r54_25 : Array Oper := opsAt Tryd.f54 [1, 1, 1, 1, 1, 1, 1, 1, 0, 1, 0, 0, 0, 0]
theorem r54_25_ok : dstOk 124 r54_25.toList = true ∧ r54_25.toList.all (fun o => noDefer o.op) = true := by decide +kernel
noncomputable def r54_27 : Array Oper := opsAt Tryd.f54 [1, 1, 1, 1, 1, 1, 1, 1, 0, 1, 0, 0, 1, 0, 0, 0]
theorem r54_27_ok : dstOk 124 r54_27.toList = true ∧ r54_27.toList.all (fun o => noDefer o.op) = true := by decide +kernel
noncomputable def r54_28 : Array Oper := opsAt Tryd.f54 [1, 1, 1, 1, 1, 1, 1, 1, 0, 1, 0, 0, 1, 0, 0, 1, 0, 0]
theorem r54_28_ok : dstOk 124 r54_28.toList = true ∧ r54_28.toList.all (fun o => noDefer o.op) = true := by decide +kernel
noncomputable def r54_26 : Array Oper := opsAt Tryd.f54 [1, 1, 1, 1, 1, 1, 1, 1, 0, 1, 0, 0, 1, 1]
theorem r54_26_ok : dstOk 124 r54_26.toList = true ∧ r54_26.toList.all (fun o => noDefer o.op) = true := by decide +kernel
noncomputable def b54_1 : Code := (.seq (.seq (.region 25 r54_25 false) (.cond (.tmp 106) .skip (.exit 2))) (.seq (.block 3 (.seq (.region 27 r54_27 false) (.cond (.tmp 123) (.seq (.region 28 r54_28 false) .ret) .skip))) (.region 26 r54_26 false)))
noncomputable def r54_29 : Array Oper := opsAt Tryd.f54 [1, 1, 1, 1, 1, 1, 1, 1, 1, 0]
theorem r54_29_ok : dstOk 124 r54_29.toList = true ∧ r54_29.toList.all (fun o => noDefer o.op) = true := by decide +kernel
noncomputable def c54 : Code := (.seq (.region 0 r54_0 false) (.seq (.region 1 r54_1 false) (.seq (.seq (.region 2 r54_2 false) (.cond (.tmp 27) (.seq (.region 3 r54_3 false) .ret) .skip)) (.seq (.region 4 r54_4 false) (.seq (.seq (.region 5 r54_5 false) (.cond (.tmp 33) (.seq (.region 6 r54_6 false) .ret) .skip)) (.seq (.region 7 r54_7 false) (.seq (.seq (.region 8 r54_8 false) (.block 0 (.loop b54_0))) (.seq (.seq (.region 22 r54_22 false) (.cond (.tmp 102) (.seq (.region 23 r54_23 false) .ret) .skip)) (.seq (.seq (.region 24 r54_24 false) (.block 2 (.loop b54_1))) (.seq (.region 29 r54_29 false) .ret))))))))))
theorem body54 : Tryd.f54.body = some c54 := by kernel_rfl
set_option maxHeartbeats 4000000 in
theorem rStatus_ok (a1 a2 a3 : AV) (g1 : Cel a1) (g2 : Cel a2) (g3 : Cel a3) (b : Bool) (pts : List PtR) (hl : pts.length ≤ 4611686018427387904) (b1 : Bool) (rules : List RuleR) (hl1 : rules.length ≤ 4611686018427387904) (hx1 : ∀ x ∈ rules, x.ok) (b2 : Bool) (hol : List Int) (hl2 : hol.length ≤ 4611686018427387904) (n day : Int) : PureCall Tryd.prog GL 54 [refAV a1 a2 a3 b pts, .sl 5 b1 (rules.map ruleAV), .sl 1 b2 (hol.map intAV), .raw (.int .i64 n), .raw (.int .i64 day)] (.tup [.raw (.int .u8 (stV pts rules hol n day)), .raw (.int .i64 (wrF hol day))]) := by
  refine pure_of_body Tryd.func54 body54 (Nat.le_of_ble_eq_true rfl) (by simp [pur_ref g1 g2 g3]) (by simp) ?_
  refine w_keep [(0, refAV a1 a2 a3 b pts), (1, .sl 5 b1 (rules.map ruleAV)), (2, .sl 1 b2 (hol.map intAV)), (3, .raw (.int .i64 n)), (4, .raw (.int .i64 day))] ⟨rfl, rfl, rfl, rfl, rfl, trivial⟩ ?_
  unfold c54
  refine awp_seq ?_
  refine w_reg (l := r54_0.toList) rfl r54_0_ok ?_
  refine a_op rfl (o_box (N := 0) rfl (by first | exact ref_good g1 g2 g3 | rfl) rfl rfl) ?_
  refine a_op rfl (o_as rfl) ?_
  refine a_op rfl (o_as rfl) ?_
  refine a_nil ?_
  refine tq_n ?_
  refine awp_seq ?_
  refine w_reg (l := r54_1.toList) rfl r54_1_ok ?_
  refine a_op rfl (o_mv rfl) ?_
  refine a_op rfl (o_mv rfl) ?_
  refine a_pure rfl rfl rfl cb85 (rwrong_ok _ _ (by omega) _) ?_
  refine a_op rfl (o_as rfl) ?_
  refine a_nil ?_
  refine tq_n ?_
  refine awp_seq ?_
  refine awp_seq ?_
  refine w_reg (l := r54_2.toList) rfl r54_2_ok ?_
  refine a_op rfl (o_mv rfl) ?_
  refine a_if rfl (o_ne rfl rfl) (fun h1 => ?_) (fun h2 => ?_)
  · refine a_nil ?_
    refine tq_n ?_
    refine w_true rfl ?_
    refine awp_seq ?_
    refine w_reg (l := r54_3.toList) rfl r54_3_ok ?_
    refine a_op rfl (o_mv rfl) ?_
    refine a_op rfl (o_as rfl) ?_
    refine a_op rfl (o_as rfl) ?_
    refine a_nil ?_
    refine tq_n ?_
    refine awp_ret ?_
    refine tq_r ?_
    refine r_tup (xs := []) rfl ⟨rfl, rfl, trivial⟩ ?_
    have hv : stV pts rules hol n day = 0 := by unfold stV; rw [if_pos (by omega)]
    exact rs_tup ⟨rs_int (by rw [hv]), rs_int (by first | rfl | omega), trivial⟩
  refine a_nil ?_
  refine tq_n ?_
  refine w_false rfl ?_
  refine awp_skip ?_
  refine tq_n ?_
  refine awp_seq ?_
  refine w_reg (l := r54_4.toList) rfl r54_4_ok ?_
  refine a_op rfl ((by first | exact o_ldg tg30 tn30 rfl rfl | exact o_ldpg tg30 tn30 rfl rfl rfl rfl)) ?_
  refine a_op rfl (o_mv rfl) ?_
  refine a_pure rfl rfl rfl cb47 (rpoint_ok _ _ _ g1 g2 g3 _ _ (by omega) _) ?_
  refine a_op rfl (o_as rfl) ?_
  refine a_nil ?_
  refine tq_n ?_
  refine awp_seq ?_
  refine awp_seq ?_
  refine w_reg (l := r54_5.toList) rfl r54_5_ok ?_
  refine a_op rfl (o_mv rfl) ?_
  refine a_if rfl (o_lt rfl rfl) (fun h3 => ?_) (fun h4 => ?_)
  · refine a_nil ?_
    refine tq_n ?_
    refine w_true rfl ?_
    refine awp_seq ?_
    refine w_reg (l := r54_6.toList) rfl r54_6_ok ?_
    refine a_op rfl (o_as rfl) ?_
    refine a_op rfl (o_as rfl) ?_
    refine a_nil ?_
    refine tq_n ?_
    refine awp_ret ?_
    refine tq_r ?_
    refine r_tup (xs := []) rfl ⟨rfl, rfl, trivial⟩ ?_
    have hv : stV pts rules hol n day = 0 := stV_none (ixf_neg (by omega))
    exact rs_tup ⟨rs_int (by rw [hv]), rs_int (by first | rfl | omega), trivial⟩
  refine a_nil ?_
  refine tq_n ?_
  refine w_false rfl ?_
  refine awp_skip ?_
  refine tq_n ?_
  refine awp_seq ?_
  have hw0 : wrF hol day = 0 := by omega
  obtain ⟨jj, hjj, hje, hjf⟩ := ixf_pos (n := n) (pts := pts) (by omega)
  refine w_reg (l := r54_7.toList) rfl r54_7_ok ?_
  refine a_op rfl (o_as rfl) ?_
  refine a_op rfl (o_as rfl) ?_
  refine a_op rfl (o_as rfl) ?_
  refine a_op rfl (o_as rfl) ?_
  refine a_nil ?_
  refine tq_n ?_
  refine awp_seq ?_
  refine awp_seq ?_
  refine w_reg (l := r54_8.toList) rfl r54_8_ok ?_
  refine a_op rfl (o_as rfl) ?_
  refine a_nil ?_
  refine tq_n ?_
  refine awp_block ?_
  refine w_loop (fun k : Nat => k ≤ rules.length ∧ fB (rV n day) rules k = false) (fun k => [(1, .sl 5 b1 (rules.map ruleAV)), (2, .sl 1 b2 (hol.map intAV)), (3, .raw (.int .i64 n)), (4, .raw (.int .i64 day)), (5, .ptr 0 0), (13, .raw (.int .i64 (ixf n pts 0))), (14, .raw (.bool (fB (sel n 1) rules (k)))), (15, .raw (.bool (fB (rN n day) rules (k)))), (16, .raw (.bool (fB (sel n 3) rules (k)))), (17, .raw (.bool (fB (rK n day) rules (k)))), (18, .raw (.int .i64 ((k : Nat) : Int)))]) (fun _ => [.var [a1, a2, a3, .sl 8 b (pts.map ptAV)]]) (fun k => rules.length - k) (0) ⟨by omega, rfl⟩ ⟨(by first | exact sub_int rfl (by omega) | rfl | exact sub_eq rfl (by rw [fB_succ hA2]; simp [rV, rN, rK, sel, seaB, vacB, wek_and hxk.2.2.1 hxk.2.2.2, *] <;> omega)), (by first | exact sub_int rfl (by omega) | rfl | exact sub_eq rfl (by rw [fB_succ hA2]; simp [rV, rN, rK, sel, seaB, vacB, wek_and hxk.2.2.1 hxk.2.2.2, *] <;> omega)), (by first | exact sub_int rfl (by omega) | rfl | exact sub_eq rfl (by rw [fB_succ hA2]; simp [rV, rN, rK, sel, seaB, vacB, wek_and hxk.2.2.1 hxk.2.2.2, *] <;> omega)), (by first | exact sub_int rfl (by omega) | rfl | exact sub_eq rfl (by rw [fB_succ hA2]; simp [rV, rN, rK, sel, seaB, vacB, wek_and hxk.2.2.1 hxk.2.2.2, *] <;> omega)), (by first | exact sub_int rfl (by omega) | rfl | exact sub_eq rfl (by rw [fB_succ hA2]; simp [rV, rN, rK, sel, seaB, vacB, wek_and hxk.2.2.1 hxk.2.2.2, *] <;> omega)), (by first | exact sub_int rfl (by omega) | rfl | exact sub_eq rfl (by rw [fB_succ hA2]; simp [rV, rN, rK, sel, seaB, vacB, wek_and hxk.2.2.1 hxk.2.2.2, *] <;> omega)), (by first | exact sub_int rfl (by omega) | rfl | exact sub_eq rfl (by rw [fB_succ hA2]; simp [rV, rN, rK, sel, seaB, vacB, wek_and hxk.2.2.1 hxk.2.2.2, *] <;> omega)), (by first | exact sub_int rfl (by omega) | rfl | exact sub_eq rfl (by rw [fB_succ hA2]; simp [rV, rN, rK, sel, seaB, vacB, wek_and hxk.2.2.1 hxk.2.2.2, *] <;> omega)), (by first | exact sub_int rfl (by omega) | rfl | exact sub_eq rfl (by rw [fB_succ hA2]; simp [rV, rN, rK, sel, seaB, vacB, wek_and hxk.2.2.1 hxk.2.2.2, *] <;> omega)), (by first | exact sub_int rfl (by omega) | rfl | exact sub_eq rfl (by rw [fB_succ hA2]; simp [rV, rN, rK, sel, seaB, vacB, wek_and hxk.2.2.1 hxk.2.2.2, *] <;> omega)), (by first | exact sub_int rfl (by omega) | rfl | exact sub_eq rfl (by rw [fB_succ hA2]; simp [rV, rN, rK, sel, seaB, vacB, wek_and hxk.2.2.1 hxk.2.2.2, *] <;> omega)), trivial⟩ rfl ?_
  intro kA ⟨hA, hVk⟩
  unfold b54_0
  refine awp_seq ?_
  refine awp_seq ?_
  refine w_reg (l := r54_9.toList) rfl r54_9_ok ?_
  refine a_op rfl (o_mv rfl) ?_
  refine a_op rfl (o_mv rfl) ?_
  refine a_op rfl (o_len rfl rfl (by first | exact List.length_map .. | rfl) tl32) ?_
  refine a_if rfl (o_lt rfl rfl) (fun h5 => ?_) (fun h6 => ?_)
  · refine a_nil ?_
    refine tq_n ?_
    refine w_true rfl ?_
    refine awp_skip ?_
    refine tq_n ?_
    have hA2 : kA < rules.length := by omega
    have hxk := hx1 _ (List.getElem_mem hA2)
    refine w_join (fun _ : Unit => fB (rV n day) rules (kA + 1) = false) (fun _ => [(1, .sl 5 b1 (rules.map ruleAV)), (2, .sl 1 b2 (hol.map intAV)), (3, .raw (.int .i64 n)), (4, .raw (.int .i64 day)), (5, .ptr 0 0), (13, .raw (.int .i64 (ixf n pts 0))), (14, .raw (.bool (fB (sel n 1) rules (kA + 1)))), (15, .raw (.bool (fB (rN n day) rules (kA + 1)))), (16, .raw (.bool (fB (sel n 3) rules (kA + 1)))), (17, .raw (.bool (fB (rK n day) rules (kA + 1)))), (18, .raw (.int .i64 ((kA : Nat) : Int)))]) (fun _ => [.var [a1, a2, a3, .sl 8 b (pts.map ptAV)], .var (ruleAV (rules[kA]'hA2)).cells]) ?_ ?_
    · refine awp_block ?_
      refine awp_seq ?_
      refine w_reg (l := r54_11.toList) rfl r54_11_ok ?_
      refine a_op rfl (o_mv rfl) ?_
      refine a_op rfl (o_mv rfl) ?_
      refine a_op rfl (o_ix te32 tn37 rfl rfl rfl (ixm _ _ _ hA2)) ?_
      refine a_op rfl ((by first | exact o_ldg tg37 tn37 rfl rfl | exact o_ldpg tg37 tn37 rfl rfl rfl rfl)) ?_
      refine a_op rfl (o_al (N := 1) tz37 rfl rfl rfl) ?_
      refine a_op0 rfl (o_st (N := 4) tn37 rfl rfl rfl rfl rfl) ?_
      refine a_nil ?_
      refine tq_n ?_
      refine awp_seq ?_
      refine awp_seq ?_
      refine w_reg (l := r54_12.toList) rfl r54_12_ok ?_
      refine a_op rfl ((by first | exact o_fa tf37_0 rfl rfl | exact o_fap tf37_0 rfl rfl)) ?_
      refine a_op rfl ((by first | exact o_ld tg3 rfl rfl | exact o_ldp tg3 rfl rfl rfl rfl)) ?_
      refine a_op rfl (o_mv rfl) ?_
      refine a_if rfl (o_ne rfl rfl) (fun h7 => ?_) (fun h8 => ?_)
      · refine a_nil ?_
        refine tq_n ?_
        refine w_true rfl ?_
        refine awp_exit ?_
        refine tq_x ?_
        refine bq_hit ?_
        refine tq_n ?_
        exact ⟨(), (by rw [fB_succ hA2, hVk]; simp [rV, sel, vacB, *] <;> omega), ⟨(by first | exact sub_int rfl (by omega) | rfl | exact sub_eq rfl (by rw [fB_succ hA2]; simp [rV, rN, rK, sel, seaB, vacB, wek_and hxk.2.2.1 hxk.2.2.2, *] <;> omega)), (by first | exact sub_int rfl (by omega) | rfl | exact sub_eq rfl (by rw [fB_succ hA2]; simp [rV, rN, rK, sel, seaB, vacB, wek_and hxk.2.2.1 hxk.2.2.2, *] <;> omega)), (by first | exact sub_int rfl (by omega) | rfl | exact sub_eq rfl (by rw [fB_succ hA2]; simp [rV, rN, rK, sel, seaB, vacB, wek_and hxk.2.2.1 hxk.2.2.2, *] <;> omega)), (by first | exact sub_int rfl (by omega) | rfl | exact sub_eq rfl (by rw [fB_succ hA2]; simp [rV, rN, rK, sel, seaB, vacB, wek_and hxk.2.2.1 hxk.2.2.2, *] <;> omega)), (by first | exact sub_int rfl (by omega) | rfl | exact sub_eq rfl (by rw [fB_succ hA2]; simp [rV, rN, rK, sel, seaB, vacB, wek_and hxk.2.2.1 hxk.2.2.2, *] <;> omega)), (by first | exact sub_int rfl (by omega) | rfl | exact sub_eq rfl (by rw [fB_succ hA2]; simp [rV, rN, rK, sel, seaB, vacB, wek_and hxk.2.2.1 hxk.2.2.2, *] <;> omega)), (by first | exact sub_int rfl (by omega) | rfl | exact sub_eq rfl (by rw [fB_succ hA2]; simp [rV, rN, rK, sel, seaB, vacB, wek_and hxk.2.2.1 hxk.2.2.2, *] <;> omega)), (by first | exact sub_int rfl (by omega) | rfl | exact sub_eq rfl (by rw [fB_succ hA2]; simp [rV, rN, rK, sel, seaB, vacB, wek_and hxk.2.2.1 hxk.2.2.2, *] <;> omega)), (by first | exact sub_int rfl (by omega) | rfl | exact sub_eq rfl (by rw [fB_succ hA2]; simp [rV, rN, rK, sel, seaB, vacB, wek_and hxk.2.2.1 hxk.2.2.2, *] <;> omega)), (by first | exact sub_int rfl (by omega) | rfl | exact sub_eq rfl (by rw [fB_succ hA2]; simp [rV, rN, rK, sel, seaB, vacB, wek_and hxk.2.2.1 hxk.2.2.2, *] <;> omega)), (by first | exact sub_int rfl (by omega) | rfl | exact sub_eq rfl (by rw [fB_succ hA2]; simp [rV, rN, rK, sel, seaB, vacB, wek_and hxk.2.2.1 hxk.2.2.2, *] <;> omega)), trivial⟩, rfl⟩
      refine a_nil ?_
      refine tq_n ?_
      refine w_false rfl ?_
      refine awp_skip ?_
      refine tq_n ?_
      refine awp_seq ?_
      refine awp_seq ?_
      have hpt : (rules[kA]'hA2).pt = n := by omega
      refine w_reg (l := r54_13.toList) rfl r54_13_ok ?_
      refine a_op rfl ((by first | exact o_fa tf37_1 rfl rfl | exact o_fap tf37_1 rfl rfl)) ?_
      refine a_op rfl ((by first | exact o_ld tg5 rfl rfl | exact o_ldp tg5 rfl rfl rfl rfl)) ?_
      refine a_if rfl (o_eq rfl rfl) (fun h9 => ?_) (fun h10 => ?_)
      · refine a_op rfl (o_mv rfl) ?_
        refine a_op rfl ((by first | exact o_fa tf37_2 rfl rfl | exact o_fap tf37_2 rfl rfl)) ?_
        refine a_op rfl ((by first | exact o_ld tg3 rfl rfl | exact o_ldp tg3 rfl rfl rfl rfl)) ?_
        refine a_op rfl (o_mv rfl) ?_
        refine a_if rfl (o_le rfl rfl) (fun h11 => ?_) (fun h12 => ?_)
        · refine a_op rfl (o_pkt rfl rfl) ?_
          refine a_op rfl (o_mv rfl) ?_
          refine a_op rfl (o_mv rfl) ?_
          refine a_op rfl ((by first | exact o_fa tf37_3 rfl rfl | exact o_fap tf37_3 rfl rfl)) ?_
          refine a_op rfl ((by first | exact o_ld tg3 rfl rfl | exact o_ldp tg3 rfl rfl rfl rfl)) ?_
          refine a_if rfl (o_le rfl rfl) (fun h13 => ?_) (fun h14 => ?_)
          · refine a_op rfl (o_pkt rfl rfl) ?_
            refine a_nil ?_
            refine tq_n ?_
            refine w_true rfl ?_
            refine awp_seq ?_
            refine w_reg (l := r54_14.toList) rfl r54_14_ok ?_
            refine a_op rfl (o_as rfl) ?_
            refine a_op rfl (o_as rfl) ?_
            refine a_nil ?_
            refine tq_n ?_
            refine awp_ret ?_
            refine tq_r ?_
            refine bq_r ?_
            refine tq_r ?_
            refine tq_r ?_
            refine bq_r ?_
            refine tq_r ?_
            refine r_tup (xs := []) rfl ⟨rfl, rfl, trivial⟩ ?_
            have hv : stV pts rules hol n day = 3 := by rw [stV_eq hw0 hjf rules.length (Nat.le_refl _), if_pos (fB_mono hA2 (by simp [rV, sel, vacB, *] <;> omega) (Nat.le_refl _))]
            exact rs_tup ⟨rs_int (by rw [hv]), rs_int (by first | rfl | omega), trivial⟩
          refine a_op rfl (o_pkt rfl rfl) ?_
          refine a_nil ?_
          refine tq_n ?_
          refine w_false rfl ?_
          refine awp_skip ?_
          refine tq_n ?_
          refine awp_seq ?_
          refine awp_seq ?_
          refine w_reg (l := r54_15.toList) rfl r54_15_ok ?_
          refine a_op rfl ((by first | exact o_fa tf37_1 rfl rfl | exact o_fap tf37_1 rfl rfl)) ?_
          refine a_op rfl ((by first | exact o_ld tg5 rfl rfl | exact o_ldp tg5 rfl rfl rfl rfl)) ?_
          refine a_if rfl (o_eq rfl rfl) (fun h15 => ?_) (fun h16 => ?_)
          · refine a_nil ?_
            refine tq_n ?_
            refine w_true rfl ?_
            refine awp_seq ?_
            refine w_reg (l := r54_16.toList) rfl r54_16_ok ?_
            refine a_op rfl (o_as rfl) ?_
            refine a_nil ?_
            refine tq_n ?_
            refine awp_seq ?_
            refine w_reg (l := r54_17.toList) rfl r54_17_ok ?_
            refine a_op rfl (o_mv rfl) ?_
            refine a_op rfl ((by first | exact o_fa tf37_2 rfl rfl | exact o_fap tf37_2 rfl rfl)) ?_
            refine a_op rfl ((by first | exact o_ld tg3 rfl rfl | exact o_ldp tg3 rfl rfl rfl rfl)) ?_
            refine a_op rfl ((by first | exact o_fa tf37_3 rfl rfl | exact o_fap tf37_3 rfl rfl)) ?_
            refine a_op rfl ((by first | exact o_ld tg3 rfl rfl | exact o_ldp tg3 rfl rfl rfl rfl)) ?_
            refine a_pure rfl rfl rfl cb46 (ryearly_ok _ _ _ hxk.1 hxk.2.1) ?_
            refine a_op rfl (o_mv rfl) ?_
            refine a_op rfl (o_ex rfl rfl) ?_
            refine a_op rfl (o_ex rfl rfl) ?_
            refine a_op rfl (o_as rfl) ?_
            refine a_op rfl (o_as rfl) ?_
            refine a_nil ?_
            refine tq_n ?_
            refine w_reg (l := r54_18.toList) rfl r54_18_ok ?_
            refine a_ifb rfl (o_mv rfl) (fun h17 => ?_) (fun h18 => ?_)
            · refine a_op rfl (o_mv rfl) ?_
              refine a_off rfl ?_
              refine a_op rfl (o_pkt rfl rfl) ?_
              refine a_op rfl (o_as rfl) ?_
              refine a_nil ?_
              refine tq_n ?_
              refine awp_seq ?_
              refine w_reg (l := r54_19.toList) rfl r54_19_ok ?_
              refine a_op rfl ((by first | exact o_fa tf37_1 rfl rfl | exact o_fap tf37_1 rfl rfl)) ?_
              refine a_op rfl ((by first | exact o_ld tg5 rfl rfl | exact o_ldp tg5 rfl rfl rfl rfl)) ?_
              refine a_if rfl (o_eq rfl rfl) (fun h19 => ?_) (fun h20 => ?_)
              · refine a_nil ?_
                refine tq_n ?_
                refine w_true rfl ?_
                refine awp_seq ?_
                refine w_reg (l := r54_20.toList) rfl r54_20_ok ?_
                refine a_op rfl (o_as rfl) ?_
                refine a_nil ?_
                refine tq_n ?_
                have hwl := wk_lt day
                have hwk7 : (wk day).toNat < 7 := by omega
                refine awp_draw ⟨[[], [0], [0, 1], [0, 1, 2], [0, 1], [0, 1, 4], [0, 1, 2, 3, 4, 5], [0, 1, 2, 3, 4, 5, 6], [0, 1, 2, 3, 4, 5, 6, 7], [0, 1, 2, 3, 4, 5, 6, 7, 8]], [[17], [82], [19, 83], [83, 84], [4, 83], [83, 86], [83, 85, 87], [83, 88], [83, 89], [90]], [[], [], [], [1], [], [], [], [], [], []], [none, none, none, none, none, none, none, none, none, none]⟩ mo r54_21_ok (by decide +kernel) (l := r54_21.toList) rfl ?_
                refine d_ifb rfl rfl rfl (fun _ => o_mv rfl) (fun h21 => ?_) (fun h22 => ?_)
                · refine d_op rfl rfl rfl (fun _ => o_mv rfl) ?_
                  refine d_off rfl rfl ?_
                  refine d_off rfl rfl ?_
                  refine d_off rfl rfl ?_
                  refine d_off rfl rfl ?_
                  refine d_off rfl rfl ?_
                  refine d_off rfl rfl ?_
                  refine d_op rfl rfl rfl (fun _ => o_pkt rfl rfl) ?_
                  refine d_op rfl rfl rfl (fun _ => o_as rfl) ?_
                  refine d_nil ?_
                  refine bq_n ?_
                  refine tq_n ?_
                  exact ⟨(), (by rw [fB_succ hA2, hVk]; simp [rV, sel, vacB, *] <;> omega), ⟨(by first | exact sub_int rfl (by omega) | rfl | exact sub_eq rfl (by rw [fB_succ hA2]; simp [rV, rN, rK, sel, seaB, vacB, wek_and hxk.2.2.1 hxk.2.2.2, *] <;> omega)), (by first | exact sub_int rfl (by omega) | rfl | exact sub_eq rfl (by rw [fB_succ hA2]; simp [rV, rN, rK, sel, seaB, vacB, wek_and hxk.2.2.1 hxk.2.2.2, *] <;> omega)), (by first | exact sub_int rfl (by omega) | rfl | exact sub_eq rfl (by rw [fB_succ hA2]; simp [rV, rN, rK, sel, seaB, vacB, wek_and hxk.2.2.1 hxk.2.2.2, *] <;> omega)), (by first | exact sub_int rfl (by omega) | rfl | exact sub_eq rfl (by rw [fB_succ hA2]; simp [rV, rN, rK, sel, seaB, vacB, wek_and hxk.2.2.1 hxk.2.2.2, *] <;> omega)), (by first | exact sub_int rfl (by omega) | rfl | exact sub_eq rfl (by rw [fB_succ hA2]; simp [rV, rN, rK, sel, seaB, vacB, wek_and hxk.2.2.1 hxk.2.2.2, *] <;> omega)), (by first | exact sub_int rfl (by omega) | rfl | exact sub_eq rfl (by rw [fB_succ hA2]; simp [rV, rN, rK, sel, seaB, vacB, wek_and hxk.2.2.1 hxk.2.2.2, *] <;> omega)), (by first | exact sub_int rfl (by omega) | rfl | exact sub_eq rfl (by rw [fB_succ hA2]; simp [rV, rN, rK, sel, seaB, vacB, wek_and hxk.2.2.1 hxk.2.2.2, *] <;> omega)), (by first | exact sub_int rfl (by omega) | rfl | exact sub_eq rfl (by rw [fB_succ hA2]; simp [rV, rN, rK, sel, seaB, vacB, wek_and hxk.2.2.1 hxk.2.2.2, *] <;> omega)), (by first | exact sub_int rfl (by omega) | rfl | exact sub_eq rfl (by rw [fB_succ hA2]; simp [rV, rN, rK, sel, seaB, vacB, wek_and hxk.2.2.1 hxk.2.2.2, *] <;> omega)), (by first | exact sub_int rfl (by omega) | rfl | exact sub_eq rfl (by rw [fB_succ hA2]; simp [rV, rN, rK, sel, seaB, vacB, wek_and hxk.2.2.1 hxk.2.2.2, *] <;> omega)), (by first | exact sub_int rfl (by omega) | rfl | exact sub_eq rfl (by rw [fB_succ hA2]; simp [rV, rN, rK, sel, seaB, vacB, wek_and hxk.2.2.1 hxk.2.2.2, *] <;> omega)), trivial⟩, rfl⟩
                refine d_op rfl rfl rfl (fun _ => o_mv rfl) ?_
                refine d_op rfl rfl rfl (fun _ => (by first | exact o_fa tf37_4 rfl rfl | exact o_fap tf37_4 rfl rfl)) ?_
                refine d_op rfl rfl rfl (fun _ => (by first | exact o_ld tg5 rfl rfl | exact o_ldp tg5 rfl rfl rfl rfl)) ?_
                refine d_op rfl rfl rfl (fun _ => o_mv rfl) ?_
                refine d_pure rfl rfl rfl rfl cb86 (bit_ok _) ?_
                refine d_op rfl rfl rfl (fun _ => o_andp rfl rfl hxk.2.2.1 hxk.2.2.2 hwk7) ?_
                refine d_op rfl rfl rfl (fun _ => o_ne rfl rfl) ?_
                refine d_op rfl rfl rfl (fun _ => o_pkf rfl rfl) ?_
                refine d_ifb rfl rfl rfl (fun _ => o_as rfl) (fun h23 => ?_) (fun h24 => ?_)
                · refine d_nil ?_
                  refine bq_n ?_
                  refine tq_n ?_
                  exact ⟨(), (by rw [fB_succ hA2, hVk]; simp [rV, sel, vacB, *] <;> omega), ⟨(by first | exact sub_int rfl (by omega) | rfl | exact sub_eq rfl (by rw [fB_succ hA2]; simp [rV, rN, rK, sel, seaB, vacB, wek_and hxk.2.2.1 hxk.2.2.2, *] <;> omega)), (by first | exact sub_int rfl (by omega) | rfl | exact sub_eq rfl (by rw [fB_succ hA2]; simp [rV, rN, rK, sel, seaB, vacB, wek_and hxk.2.2.1 hxk.2.2.2, *] <;> omega)), (by first | exact sub_int rfl (by omega) | rfl | exact sub_eq rfl (by rw [fB_succ hA2]; simp [rV, rN, rK, sel, seaB, vacB, wek_and hxk.2.2.1 hxk.2.2.2, *] <;> omega)), (by first | exact sub_int rfl (by omega) | rfl | exact sub_eq rfl (by rw [fB_succ hA2]; simp [rV, rN, rK, sel, seaB, vacB, wek_and hxk.2.2.1 hxk.2.2.2, *] <;> omega)), (by first | exact sub_int rfl (by omega) | rfl | exact sub_eq rfl (by rw [fB_succ hA2]; simp [rV, rN, rK, sel, seaB, vacB, wek_and hxk.2.2.1 hxk.2.2.2, *] <;> omega)), (by first | exact sub_int rfl (by omega) | rfl | exact sub_eq rfl (by rw [fB_succ hA2]; simp [rV, rN, rK, sel, seaB, vacB, wek_and hxk.2.2.1 hxk.2.2.2, *] <;> omega)), (by first | exact sub_int rfl (by omega) | rfl | exact sub_eq rfl (by rw [fB_succ hA2]; simp [rV, rN, rK, sel, seaB, vacB, wek_and hxk.2.2.1 hxk.2.2.2, *] <;> omega)), (by first | exact sub_int rfl (by omega) | rfl | exact sub_eq rfl (by rw [fB_succ hA2]; simp [rV, rN, rK, sel, seaB, vacB, wek_and hxk.2.2.1 hxk.2.2.2, *] <;> omega)), (by first | exact sub_int rfl (by omega) | rfl | exact sub_eq rfl (by rw [fB_succ hA2]; simp [rV, rN, rK, sel, seaB, vacB, wek_and hxk.2.2.1 hxk.2.2.2, *] <;> omega)), (by first | exact sub_int rfl (by omega) | rfl | exact sub_eq rfl (by rw [fB_succ hA2]; simp [rV, rN, rK, sel, seaB, vacB, wek_and hxk.2.2.1 hxk.2.2.2, *] <;> omega)), (by first | exact sub_int rfl (by omega) | rfl | exact sub_eq rfl (by rw [fB_succ hA2]; simp [rV, rN, rK, sel, seaB, vacB, wek_and hxk.2.2.1 hxk.2.2.2, *] <;> omega)), trivial⟩, rfl⟩
                refine d_nil ?_
                refine bq_n ?_
                refine tq_n ?_
                exact ⟨(), (by rw [fB_succ hA2, hVk]; simp [rV, sel, vacB, *] <;> omega), ⟨(by first | exact sub_int rfl (by omega) | rfl | exact sub_eq rfl (by rw [fB_succ hA2]; simp [rV, rN, rK, sel, seaB, vacB, wek_and hxk.2.2.1 hxk.2.2.2, *] <;> omega)), (by first | exact sub_int rfl (by omega) | rfl | exact sub_eq rfl (by rw [fB_succ hA2]; simp [rV, rN, rK, sel, seaB, vacB, wek_and hxk.2.2.1 hxk.2.2.2, *] <;> omega)), (by first | exact sub_int rfl (by omega) | rfl | exact sub_eq rfl (by rw [fB_succ hA2]; simp [rV, rN, rK, sel, seaB, vacB, wek_and hxk.2.2.1 hxk.2.2.2, *] <;> omega)), (by first | exact sub_int rfl (by omega) | rfl | exact sub_eq rfl (by rw [fB_succ hA2]; simp [rV, rN, rK, sel, seaB, vacB, wek_and hxk.2.2.1 hxk.2.2.2, *] <;> omega)), (by first | exact sub_int rfl (by omega) | rfl | exact sub_eq rfl (by rw [fB_succ hA2]; simp [rV, rN, rK, sel, seaB, vacB, wek_and hxk.2.2.1 hxk.2.2.2, *] <;> omega)), (by first | exact sub_int rfl (by omega) | rfl | exact sub_eq rfl (by rw [fB_succ hA2]; simp [rV, rN, rK, sel, seaB, vacB, wek_and hxk.2.2.1 hxk.2.2.2, *] <;> omega)), (by first | exact sub_int rfl (by omega) | rfl | exact sub_eq rfl (by rw [fB_succ hA2]; simp [rV, rN, rK, sel, seaB, vacB, wek_and hxk.2.2.1 hxk.2.2.2, *] <;> omega)), (by first | exact sub_int rfl (by omega) | rfl | exact sub_eq rfl (by rw [fB_succ hA2]; simp [rV, rN, rK, sel, seaB, vacB, wek_and hxk.2.2.1 hxk.2.2.2, *] <;> omega)), (by first | exact sub_int rfl (by omega) | rfl | exact sub_eq rfl (by rw [fB_succ hA2]; simp [rV, rN, rK, sel, seaB, vacB, wek_and hxk.2.2.1 hxk.2.2.2, *] <;> omega)), (by first | exact sub_int rfl (by omega) | rfl | exact sub_eq rfl (by rw [fB_succ hA2]; simp [rV, rN, rK, sel, seaB, vacB, wek_and hxk.2.2.1 hxk.2.2.2, *] <;> omega)), (by first | exact sub_int rfl (by omega) | rfl | exact sub_eq rfl (by rw [fB_succ hA2]; simp [rV, rN, rK, sel, seaB, vacB, wek_and hxk.2.2.1 hxk.2.2.2, *] <;> omega)), trivial⟩, rfl⟩
              refine a_nil ?_
              refine tq_n ?_
              refine w_false rfl ?_
              refine awp_skip ?_
              refine bq_n ?_
              refine tq_n ?_
              exact ⟨(), (by rw [fB_succ hA2, hVk]; simp [rV, sel, vacB, *] <;> omega), ⟨(by first | exact sub_int rfl (by omega) | rfl | exact sub_eq rfl (by rw [fB_succ hA2]; simp [rV, rN, rK, sel, seaB, vacB, wek_and hxk.2.2.1 hxk.2.2.2, *] <;> omega)), (by first | exact sub_int rfl (by omega) | rfl | exact sub_eq rfl (by rw [fB_succ hA2]; simp [rV, rN, rK, sel, seaB, vacB, wek_and hxk.2.2.1 hxk.2.2.2, *] <;> omega)), (by first | exact sub_int rfl (by omega) | rfl | exact sub_eq rfl (by rw [fB_succ hA2]; simp [rV, rN, rK, sel, seaB, vacB, wek_and hxk.2.2.1 hxk.2.2.2, *] <;> omega)), (by first | exact sub_int rfl (by omega) | rfl | exact sub_eq rfl (by rw [fB_succ hA2]; simp [rV, rN, rK, sel, seaB, vacB, wek_and hxk.2.2.1 hxk.2.2.2, *] <;> omega)), (by first | exact sub_int rfl (by omega) | rfl | exact sub_eq rfl (by rw [fB_succ hA2]; simp [rV, rN, rK, sel, seaB, vacB, wek_and hxk.2.2.1 hxk.2.2.2, *] <;> omega)), (by first | exact sub_int rfl (by omega) | rfl | exact sub_eq rfl (by rw [fB_succ hA2]; simp [rV, rN, rK, sel, seaB, vacB, wek_and hxk.2.2.1 hxk.2.2.2, *] <;> omega)), (by first | exact sub_int rfl (by omega) | rfl | exact sub_eq rfl (by rw [fB_succ hA2]; simp [rV, rN, rK, sel, seaB, vacB, wek_and hxk.2.2.1 hxk.2.2.2, *] <;> omega)), (by first | exact sub_int rfl (by omega) | rfl | exact sub_eq rfl (by rw [fB_succ hA2]; simp [rV, rN, rK, sel, seaB, vacB, wek_and hxk.2.2.1 hxk.2.2.2, *] <;> omega)), (by first | exact sub_int rfl (by omega) | rfl | exact sub_eq rfl (by rw [fB_succ hA2]; simp [rV, rN, rK, sel, seaB, vacB, wek_and hxk.2.2.1 hxk.2.2.2, *] <;> omega)), (by first | exact sub_int rfl (by omega) | rfl | exact sub_eq rfl (by rw [fB_succ hA2]; simp [rV, rN, rK, sel, seaB, vacB, wek_and hxk.2.2.1 hxk.2.2.2, *] <;> omega)), (by first | exact sub_int rfl (by omega) | rfl | exact sub_eq rfl (by rw [fB_succ hA2]; simp [rV, rN, rK, sel, seaB, vacB, wek_and hxk.2.2.1 hxk.2.2.2, *] <;> omega)), trivial⟩, rfl⟩
            refine a_op rfl (o_mv rfl) ?_
            refine a_op rfl (o_mv rfl) ?_
            refine a_op rfl (o_pkf rfl rfl) ?_
            refine a_ifb rfl (o_as rfl) (fun h25 => ?_) (fun h26 => ?_)
            · refine a_nil ?_
              refine tq_n ?_
              refine awp_seq ?_
              refine w_reg (l := r54_19.toList) rfl r54_19_ok ?_
              refine a_op rfl ((by first | exact o_fa tf37_1 rfl rfl | exact o_fap tf37_1 rfl rfl)) ?_
              refine a_op rfl ((by first | exact o_ld tg5 rfl rfl | exact o_ldp tg5 rfl rfl rfl rfl)) ?_
              refine a_if rfl (o_eq rfl rfl) (fun h27 => ?_) (fun h28 => ?_)
              · refine a_nil ?_
                refine tq_n ?_
                refine w_true rfl ?_
                refine awp_seq ?_
                refine w_reg (l := r54_20.toList) rfl r54_20_ok ?_
                refine a_op rfl (o_as rfl) ?_
                refine a_nil ?_
                refine tq_n ?_
                have hwl := wk_lt day
                have hwk7 : (wk day).toNat < 7 := by omega
                refine awp_draw ⟨[[], [0], [0, 1], [0, 1, 2], [0, 1], [0, 1, 4], [0, 1, 2, 3, 4, 5], [0, 1, 2, 3, 4, 5, 6], [0, 1, 2, 3, 4, 5, 6, 7], [0, 1, 2, 3, 4, 5, 6, 7, 8]], [[17], [82], [19, 83], [83, 84], [4, 83], [83, 86], [83, 85, 87], [83, 88], [83, 89], [90]], [[], [], [], [1], [], [], [], [], [], []], [none, none, none, none, none, none, none, none, none, none]⟩ mo r54_21_ok (by decide +kernel) (l := r54_21.toList) rfl ?_
                refine d_ifb rfl rfl rfl (fun _ => o_mv rfl) (fun h29 => ?_) (fun h30 => ?_)
                · refine d_op rfl rfl rfl (fun _ => o_mv rfl) ?_
                  refine d_off rfl rfl ?_
                  refine d_off rfl rfl ?_
                  refine d_off rfl rfl ?_
                  refine d_off rfl rfl ?_
                  refine d_off rfl rfl ?_
                  refine d_off rfl rfl ?_
                  refine d_op rfl rfl rfl (fun _ => o_pkt rfl rfl) ?_
                  refine d_op rfl rfl rfl (fun _ => o_as rfl) ?_
                  refine d_nil ?_
                  refine bq_n ?_
                  refine tq_n ?_
                  exact ⟨(), (by rw [fB_succ hA2, hVk]; simp [rV, sel, vacB, *] <;> omega), ⟨(by first | exact sub_int rfl (by omega) | rfl | exact sub_eq rfl (by rw [fB_succ hA2]; simp [rV, rN, rK, sel, seaB, vacB, wek_and hxk.2.2.1 hxk.2.2.2, *] <;> omega)), (by first | exact sub_int rfl (by omega) | rfl | exact sub_eq rfl (by rw [fB_succ hA2]; simp [rV, rN, rK, sel, seaB, vacB, wek_and hxk.2.2.1 hxk.2.2.2, *] <;> omega)), (by first | exact sub_int rfl (by omega) | rfl | exact sub_eq rfl (by rw [fB_succ hA2]; simp [rV, rN, rK, sel, seaB, vacB, wek_and hxk.2.2.1 hxk.2.2.2, *] <;> omega)), (by first | exact sub_int rfl (by omega) | rfl | exact sub_eq rfl (by rw [fB_succ hA2]; simp [rV, rN, rK, sel, seaB, vacB, wek_and hxk.2.2.1 hxk.2.2.2, *] <;> omega)), (by first | exact sub_int rfl (by omega) | rfl | exact sub_eq rfl (by rw [fB_succ hA2]; simp [rV, rN, rK, sel, seaB, vacB, wek_and hxk.2.2.1 hxk.2.2.2, *] <;> omega)), (by first | exact sub_int rfl (by omega) | rfl | exact sub_eq rfl (by rw [fB_succ hA2]; simp [rV, rN, rK, sel, seaB, vacB, wek_and hxk.2.2.1 hxk.2.2.2, *] <;> omega)), (by first | exact sub_int rfl (by omega) | rfl | exact sub_eq rfl (by rw [fB_succ hA2]; simp [rV, rN, rK, sel, seaB, vacB, wek_and hxk.2.2.1 hxk.2.2.2, *] <;> omega)), (by first | exact sub_int rfl (by omega) | rfl | exact sub_eq rfl (by rw [fB_succ hA2]; simp [rV, rN, rK, sel, seaB, vacB, wek_and hxk.2.2.1 hxk.2.2.2, *] <;> omega)), (by first | exact sub_int rfl (by omega) | rfl | exact sub_eq rfl (by rw [fB_succ hA2]; simp [rV, rN, rK, sel, seaB, vacB, wek_and hxk.2.2.1 hxk.2.2.2, *] <;> omega)), (by first | exact sub_int rfl (by omega) | rfl | exact sub_eq rfl (by rw [fB_succ hA2]; simp [rV, rN, rK, sel, seaB, vacB, wek_and hxk.2.2.1 hxk.2.2.2, *] <;> omega)), (by first | exact sub_int rfl (by omega) | rfl | exact sub_eq rfl (by rw [fB_succ hA2]; simp [rV, rN, rK, sel, seaB, vacB, wek_and hxk.2.2.1 hxk.2.2.2, *] <;> omega)), trivial⟩, rfl⟩
                refine d_op rfl rfl rfl (fun _ => o_mv rfl) ?_
                refine d_op rfl rfl rfl (fun _ => (by first | exact o_fa tf37_4 rfl rfl | exact o_fap tf37_4 rfl rfl)) ?_
                refine d_op rfl rfl rfl (fun _ => (by first | exact o_ld tg5 rfl rfl | exact o_ldp tg5 rfl rfl rfl rfl)) ?_
                refine d_op rfl rfl rfl (fun _ => o_mv rfl) ?_
                refine d_pure rfl rfl rfl rfl cb86 (bit_ok _) ?_
                refine d_op rfl rfl rfl (fun _ => o_andp rfl rfl hxk.2.2.1 hxk.2.2.2 hwk7) ?_
                refine d_op rfl rfl rfl (fun _ => o_ne rfl rfl) ?_
                refine d_op rfl rfl rfl (fun _ => o_pkf rfl rfl) ?_
                refine d_ifb rfl rfl rfl (fun _ => o_as rfl) (fun h31 => ?_) (fun h32 => ?_)
                · refine d_nil ?_
                  refine bq_n ?_
                  refine tq_n ?_
                  exact ⟨(), (by rw [fB_succ hA2, hVk]; simp [rV, sel, vacB, *] <;> omega), ⟨(by first | exact sub_int rfl (by omega) | rfl | exact sub_eq rfl (by rw [fB_succ hA2]; simp [rV, rN, rK, sel, seaB, vacB, wek_and hxk.2.2.1 hxk.2.2.2, *] <;> omega)), (by first | exact sub_int rfl (by omega) | rfl | exact sub_eq rfl (by rw [fB_succ hA2]; simp [rV, rN, rK, sel, seaB, vacB, wek_and hxk.2.2.1 hxk.2.2.2, *] <;> omega)), (by first | exact sub_int rfl (by omega) | rfl | exact sub_eq rfl (by rw [fB_succ hA2]; simp [rV, rN, rK, sel, seaB, vacB, wek_and hxk.2.2.1 hxk.2.2.2, *] <;> omega)), (by first | exact sub_int rfl (by omega) | rfl | exact sub_eq rfl (by rw [fB_succ hA2]; simp [rV, rN, rK, sel, seaB, vacB, wek_and hxk.2.2.1 hxk.2.2.2, *] <;> omega)), (by first | exact sub_int rfl (by omega) | rfl | exact sub_eq rfl (by rw [fB_succ hA2]; simp [rV, rN, rK, sel, seaB, vacB, wek_and hxk.2.2.1 hxk.2.2.2, *] <;> omega)), (by first | exact sub_int rfl (by omega) | rfl | exact sub_eq rfl (by rw [fB_succ hA2]; simp [rV, rN, rK, sel, seaB, vacB, wek_and hxk.2.2.1 hxk.2.2.2, *] <;> omega)), (by first | exact sub_int rfl (by omega) | rfl | exact sub_eq rfl (by rw [fB_succ hA2]; simp [rV, rN, rK, sel, seaB, vacB, wek_and hxk.2.2.1 hxk.2.2.2, *] <;> omega)), (by first | exact sub_int rfl (by omega) | rfl | exact sub_eq rfl (by rw [fB_succ hA2]; simp [rV, rN, rK, sel, seaB, vacB, wek_and hxk.2.2.1 hxk.2.2.2, *] <;> omega)), (by first | exact sub_int rfl (by omega) | rfl | exact sub_eq rfl (by rw [fB_succ hA2]; simp [rV, rN, rK, sel, seaB, vacB, wek_and hxk.2.2.1 hxk.2.2.2, *] <;> omega)), (by first | exact sub_int rfl (by omega) | rfl | exact sub_eq rfl (by rw [fB_succ hA2]; simp [rV, rN, rK, sel, seaB, vacB, wek_and hxk.2.2.1 hxk.2.2.2, *] <;> omega)), (by first | exact sub_int rfl (by omega) | rfl | exact sub_eq rfl (by rw [fB_succ hA2]; simp [rV, rN, rK, sel, seaB, vacB, wek_and hxk.2.2.1 hxk.2.2.2, *] <;> omega)), trivial⟩, rfl⟩
                refine d_nil ?_
                refine bq_n ?_
                refine tq_n ?_
                exact ⟨(), (by rw [fB_succ hA2, hVk]; simp [rV, sel, vacB, *] <;> omega), ⟨(by first | exact sub_int rfl (by omega) | rfl | exact sub_eq rfl (by rw [fB_succ hA2]; simp [rV, rN, rK, sel, seaB, vacB, wek_and hxk.2.2.1 hxk.2.2.2, *] <;> omega)), (by first | exact sub_int rfl (by omega) | rfl | exact sub_eq rfl (by rw [fB_succ hA2]; simp [rV, rN, rK, sel, seaB, vacB, wek_and hxk.2.2.1 hxk.2.2.2, *] <;> omega)), (by first | exact sub_int rfl (by omega) | rfl | exact sub_eq rfl (by rw [fB_succ hA2]; simp [rV, rN, rK, sel, seaB, vacB, wek_and hxk.2.2.1 hxk.2.2.2, *] <;> omega)), (by first | exact sub_int rfl (by omega) | rfl | exact sub_eq rfl (by rw [fB_succ hA2]; simp [rV, rN, rK, sel, seaB, vacB, wek_and hxk.2.2.1 hxk.2.2.2, *] <;> omega)), (by first | exact sub_int rfl (by omega) | rfl | exact sub_eq rfl (by rw [fB_succ hA2]; simp [rV, rN, rK, sel, seaB, vacB, wek_and hxk.2.2.1 hxk.2.2.2, *] <;> omega)), (by first | exact sub_int rfl (by omega) | rfl | exact sub_eq rfl (by rw [fB_succ hA2]; simp [rV, rN, rK, sel, seaB, vacB, wek_and hxk.2.2.1 hxk.2.2.2, *] <;> omega)), (by first | exact sub_int rfl (by omega) | rfl | exact sub_eq rfl (by rw [fB_succ hA2]; simp [rV, rN, rK, sel, seaB, vacB, wek_and hxk.2.2.1 hxk.2.2.2, *] <;> omega)), (by first | exact sub_int rfl (by omega) | rfl | exact sub_eq rfl (by rw [fB_succ hA2]; simp [rV, rN, rK, sel, seaB, vacB, wek_and hxk.2.2.1 hxk.2.2.2, *] <;> omega)), (by first | exact sub_int rfl (by omega) | rfl | exact sub_eq rfl (by rw [fB_succ hA2]; simp [rV, rN, rK, sel, seaB, vacB, wek_and hxk.2.2.1 hxk.2.2.2, *] <;> omega)), (by first | exact sub_int rfl (by omega) | rfl | exact sub_eq rfl (by rw [fB_succ hA2]; simp [rV, rN, rK, sel, seaB, vacB, wek_and hxk.2.2.1 hxk.2.2.2, *] <;> omega)), (by first | exact sub_int rfl (by omega) | rfl | exact sub_eq rfl (by rw [fB_succ hA2]; simp [rV, rN, rK, sel, seaB, vacB, wek_and hxk.2.2.1 hxk.2.2.2, *] <;> omega)), trivial⟩, rfl⟩
              refine a_nil ?_
              refine tq_n ?_
              refine w_false rfl ?_
              refine awp_skip ?_
              refine bq_n ?_
              refine tq_n ?_
              exact ⟨(), (by rw [fB_succ hA2, hVk]; simp [rV, sel, vacB, *] <;> omega), ⟨(by first | exact sub_int rfl (by omega) | rfl | exact sub_eq rfl (by rw [fB_succ hA2]; simp [rV, rN, rK, sel, seaB, vacB, wek_and hxk.2.2.1 hxk.2.2.2, *] <;> omega)), (by first | exact sub_int rfl (by omega) | rfl | exact sub_eq rfl (by rw [fB_succ hA2]; simp [rV, rN, rK, sel, seaB, vacB, wek_and hxk.2.2.1 hxk.2.2.2, *] <;> omega)), (by first | exact sub_int rfl (by omega) | rfl | exact sub_eq rfl (by rw [fB_succ hA2]; simp [rV, rN, rK, sel, seaB, vacB, wek_and hxk.2.2.1 hxk.2.2.2, *] <;> omega)), (by first | exact sub_int rfl (by omega) | rfl | exact sub_eq rfl (by rw [fB_succ hA2]; simp [rV, rN, rK, sel, seaB, vacB, wek_and hxk.2.2.1 hxk.2.2.2, *] <;> omega)), (by first | exact sub_int rfl (by omega) | rfl | exact sub_eq rfl (by rw [fB_succ hA2]; simp [rV, rN, rK, sel, seaB, vacB, wek_and hxk.2.2.1 hxk.2.2.2, *] <;> omega)), (by first | exact sub_int rfl (by omega) | rfl | exact sub_eq rfl (by rw [fB_succ hA2]; simp [rV, rN, rK, sel, seaB, vacB, wek_and hxk.2.2.1 hxk.2.2.2, *] <;> omega)), (by first | exact sub_int rfl (by omega) | rfl | exact sub_eq rfl (by rw [fB_succ hA2]; simp [rV, rN, rK, sel, seaB, vacB, wek_and hxk.2.2.1 hxk.2.2.2, *] <;> omega)), (by first | exact sub_int rfl (by omega) | rfl | exact sub_eq rfl (by rw [fB_succ hA2]; simp [rV, rN, rK, sel, seaB, vacB, wek_and hxk.2.2.1 hxk.2.2.2, *] <;> omega)), (by first | exact sub_int rfl (by omega) | rfl | exact sub_eq rfl (by rw [fB_succ hA2]; simp [rV, rN, rK, sel, seaB, vacB, wek_and hxk.2.2.1 hxk.2.2.2, *] <;> omega)), (by first | exact sub_int rfl (by omega) | rfl | exact sub_eq rfl (by rw [fB_succ hA2]; simp [rV, rN, rK, sel, seaB, vacB, wek_and hxk.2.2.1 hxk.2.2.2, *] <;> omega)), (by first | exact sub_int rfl (by omega) | rfl | exact sub_eq rfl (by rw [fB_succ hA2]; simp [rV, rN, rK, sel, seaB, vacB, wek_and hxk.2.2.1 hxk.2.2.2, *] <;> omega)), trivial⟩, rfl⟩
            refine a_nil ?_
            refine tq_n ?_
            refine awp_seq ?_
            refine w_reg (l := r54_19.toList) rfl r54_19_ok ?_
            refine a_op rfl ((by first | exact o_fa tf37_1 rfl rfl | exact o_fap tf37_1 rfl rfl)) ?_
            refine a_op rfl ((by first | exact o_ld tg5 rfl rfl | exact o_ldp tg5 rfl rfl rfl rfl)) ?_
            refine a_if rfl (o_eq rfl rfl) (fun h33 => ?_) (fun h34 => ?_)
            · refine a_nil ?_
              refine tq_n ?_
              refine w_true rfl ?_
              refine awp_seq ?_
              refine w_reg (l := r54_20.toList) rfl r54_20_ok ?_
              refine a_op rfl (o_as rfl) ?_
              refine a_nil ?_
              refine tq_n ?_
              have hwl := wk_lt day
              have hwk7 : (wk day).toNat < 7 := by omega
              refine awp_draw ⟨[[], [0], [0, 1], [0, 1, 2], [0, 1], [0, 1, 4], [0, 1, 2, 3, 4, 5], [0, 1, 2, 3, 4, 5, 6], [0, 1, 2, 3, 4, 5, 6, 7], [0, 1, 2, 3, 4, 5, 6, 7, 8]], [[17], [82], [19, 83], [83, 84], [4, 83], [83, 86], [83, 85, 87], [83, 88], [83, 89], [90]], [[], [], [], [1], [], [], [], [], [], []], [none, none, none, none, none, none, none, none, none, none]⟩ mo r54_21_ok (by decide +kernel) (l := r54_21.toList) rfl ?_
              refine d_ifb rfl rfl rfl (fun _ => o_mv rfl) (fun h35 => ?_) (fun h36 => ?_)
              · refine d_op rfl rfl rfl (fun _ => o_mv rfl) ?_
                refine d_off rfl rfl ?_
                refine d_off rfl rfl ?_
                refine d_off rfl rfl ?_
                refine d_off rfl rfl ?_
                refine d_off rfl rfl ?_
                refine d_off rfl rfl ?_
                refine d_op rfl rfl rfl (fun _ => o_pkt rfl rfl) ?_
                refine d_op rfl rfl rfl (fun _ => o_as rfl) ?_
                refine d_nil ?_
                refine bq_n ?_
                refine tq_n ?_
                exact ⟨(), (by rw [fB_succ hA2, hVk]; simp [rV, sel, vacB, *] <;> omega), ⟨(by first | exact sub_int rfl (by omega) | rfl | exact sub_eq rfl (by rw [fB_succ hA2]; simp [rV, rN, rK, sel, seaB, vacB, wek_and hxk.2.2.1 hxk.2.2.2, *] <;> omega)), (by first | exact sub_int rfl (by omega) | rfl | exact sub_eq rfl (by rw [fB_succ hA2]; simp [rV, rN, rK, sel, seaB, vacB, wek_and hxk.2.2.1 hxk.2.2.2, *] <;> omega)), (by first | exact sub_int rfl (by omega) | rfl | exact sub_eq rfl (by rw [fB_succ hA2]; simp [rV, rN, rK, sel, seaB, vacB, wek_and hxk.2.2.1 hxk.2.2.2, *] <;> omega)), (by first | exact sub_int rfl (by omega) | rfl | exact sub_eq rfl (by rw [fB_succ hA2]; simp [rV, rN, rK, sel, seaB, vacB, wek_and hxk.2.2.1 hxk.2.2.2, *] <;> omega)), (by first | exact sub_int rfl (by omega) | rfl | exact sub_eq rfl (by rw [fB_succ hA2]; simp [rV, rN, rK, sel, seaB, vacB, wek_and hxk.2.2.1 hxk.2.2.2, *] <;> omega)), (by first | exact sub_int rfl (by omega) | rfl | exact sub_eq rfl (by rw [fB_succ hA2]; simp [rV, rN, rK, sel, seaB, vacB, wek_and hxk.2.2.1 hxk.2.2.2, *] <;> omega)), (by first | exact sub_int rfl (by omega) | rfl | exact sub_eq rfl (by rw [fB_succ hA2]; simp [rV, rN, rK, sel, seaB, vacB, wek_and hxk.2.2.1 hxk.2.2.2, *] <;> omega)), (by first | exact sub_int rfl (by omega) | rfl | exact sub_eq rfl (by rw [fB_succ hA2]; simp [rV, rN, rK, sel, seaB, vacB, wek_and hxk.2.2.1 hxk.2.2.2, *] <;> omega)), (by first | exact sub_int rfl (by omega) | rfl | exact sub_eq rfl (by rw [fB_succ hA2]; simp [rV, rN, rK, sel, seaB, vacB, wek_and hxk.2.2.1 hxk.2.2.2, *] <;> omega)), (by first | exact sub_int rfl (by omega) | rfl | exact sub_eq rfl (by rw [fB_succ hA2]; simp [rV, rN, rK, sel, seaB, vacB, wek_and hxk.2.2.1 hxk.2.2.2, *] <;> omega)), (by first | exact sub_int rfl (by omega) | rfl | exact sub_eq rfl (by rw [fB_succ hA2]; simp [rV, rN, rK, sel, seaB, vacB, wek_and hxk.2.2.1 hxk.2.2.2, *] <;> omega)), trivial⟩, rfl⟩
              refine d_op rfl rfl rfl (fun _ => o_mv rfl) ?_
              refine d_op rfl rfl rfl (fun _ => (by first | exact o_fa tf37_4 rfl rfl | exact o_fap tf37_4 rfl rfl)) ?_
              refine d_op rfl rfl rfl (fun _ => (by first | exact o_ld tg5 rfl rfl | exact o_ldp tg5 rfl rfl rfl rfl)) ?_
              refine d_op rfl rfl rfl (fun _ => o_mv rfl) ?_
              refine d_pure rfl rfl rfl rfl cb86 (bit_ok _) ?_
              refine d_op rfl rfl rfl (fun _ => o_andp rfl rfl hxk.2.2.1 hxk.2.2.2 hwk7) ?_
              refine d_op rfl rfl rfl (fun _ => o_ne rfl rfl) ?_
              refine d_op rfl rfl rfl (fun _ => o_pkf rfl rfl) ?_
              refine d_ifb rfl rfl rfl (fun _ => o_as rfl) (fun h37 => ?_) (fun h38 => ?_)
              · refine d_nil ?_
                refine bq_n ?_
                refine tq_n ?_
                exact ⟨(), (by rw [fB_succ hA2, hVk]; simp [rV, sel, vacB, *] <;> omega), ⟨(by first | exact sub_int rfl (by omega) | rfl | exact sub_eq rfl (by rw [fB_succ hA2]; simp [rV, rN, rK, sel, seaB, vacB, wek_and hxk.2.2.1 hxk.2.2.2, *] <;> omega)), (by first | exact sub_int rfl (by omega) | rfl | exact sub_eq rfl (by rw [fB_succ hA2]; simp [rV, rN, rK, sel, seaB, vacB, wek_and hxk.2.2.1 hxk.2.2.2, *] <;> omega)), (by first | exact sub_int rfl (by omega) | rfl | exact sub_eq rfl (by rw [fB_succ hA2]; simp [rV, rN, rK, sel, seaB, vacB, wek_and hxk.2.2.1 hxk.2.2.2, *] <;> omega)), (by first | exact sub_int rfl (by omega) | rfl | exact sub_eq rfl (by rw [fB_succ hA2]; simp [rV, rN, rK, sel, seaB, vacB, wek_and hxk.2.2.1 hxk.2.2.2, *] <;> omega)), (by first | exact sub_int rfl (by omega) | rfl | exact sub_eq rfl (by rw [fB_succ hA2]; simp [rV, rN, rK, sel, seaB, vacB, wek_and hxk.2.2.1 hxk.2.2.2, *] <;> omega)), (by first | exact sub_int rfl (by omega) | rfl | exact sub_eq rfl (by rw [fB_succ hA2]; simp [rV, rN, rK, sel, seaB, vacB, wek_and hxk.2.2.1 hxk.2.2.2, *] <;> omega)), (by first | exact sub_int rfl (by omega) | rfl | exact sub_eq rfl (by rw [fB_succ hA2]; simp [rV, rN, rK, sel, seaB, vacB, wek_and hxk.2.2.1 hxk.2.2.2, *] <;> omega)), (by first | exact sub_int rfl (by omega) | rfl | exact sub_eq rfl (by rw [fB_succ hA2]; simp [rV, rN, rK, sel, seaB, vacB, wek_and hxk.2.2.1 hxk.2.2.2, *] <;> omega)), (by first | exact sub_int rfl (by omega) | rfl | exact sub_eq rfl (by rw [fB_succ hA2]; simp [rV, rN, rK, sel, seaB, vacB, wek_and hxk.2.2.1 hxk.2.2.2, *] <;> omega)), (by first | exact sub_int rfl (by omega) | rfl | exact sub_eq rfl (by rw [fB_succ hA2]; simp [rV, rN, rK, sel, seaB, vacB, wek_and hxk.2.2.1 hxk.2.2.2, *] <;> omega)), (by first | exact sub_int rfl (by omega) | rfl | exact sub_eq rfl (by rw [fB_succ hA2]; simp [rV, rN, rK, sel, seaB, vacB, wek_and hxk.2.2.1 hxk.2.2.2, *] <;> omega)), trivial⟩, rfl⟩
              refine d_nil ?_
              refine bq_n ?_
              refine tq_n ?_
              exact ⟨(), (by rw [fB_succ hA2, hVk]; simp [rV, sel, vacB, *] <;> omega), ⟨(by first | exact sub_int rfl (by omega) | rfl | exact sub_eq rfl (by rw [fB_succ hA2]; simp [rV, rN, rK, sel, seaB, vacB, wek_and hxk.2.2.1 hxk.2.2.2, *] <;> omega)), (by first | exact sub_int rfl (by omega) | rfl | exact sub_eq rfl (by rw [fB_succ hA2]; simp [rV, rN, rK, sel, seaB, vacB, wek_and hxk.2.2.1 hxk.2.2.2, *] <;> omega)), (by first | exact sub_int rfl (by omega) | rfl | exact sub_eq rfl (by rw [fB_succ hA2]; simp [rV, rN, rK, sel, seaB, vacB, wek_and hxk.2.2.1 hxk.2.2.2, *] <;> omega)), (by first | exact sub_int rfl (by omega) | rfl | exact sub_eq rfl (by rw [fB_succ hA2]; simp [rV, rN, rK, sel, seaB, vacB, wek_and hxk.2.2.1 hxk.2.2.2, *] <;> omega)), (by first | exact sub_int rfl (by omega) | rfl | exact sub_eq rfl (by rw [fB_succ hA2]; simp [rV, rN, rK, sel, seaB, vacB, wek_and hxk.2.2.1 hxk.2.2.2, *] <;> omega)), (by first | exact sub_int rfl (by omega) | rfl | exact sub_eq rfl (by rw [fB_succ hA2]; simp [rV, rN, rK, sel, seaB, vacB, wek_and hxk.2.2.1 hxk.2.2.2, *] <;> omega)), (by first | exact sub_int rfl (by omega) | rfl | exact sub_eq rfl (by rw [fB_succ hA2]; simp [rV, rN, rK, sel, seaB, vacB, wek_and hxk.2.2.1 hxk.2.2.2, *] <;> omega)), (by first | exact sub_int rfl (by omega) | rfl | exact sub_eq rfl (by rw [fB_succ hA2]; simp [rV, rN, rK, sel, seaB, vacB, wek_and hxk.2.2.1 hxk.2.2.2, *] <;> omega)), (by first | exact sub_int rfl (by omega) | rfl | exact sub_eq rfl (by rw [fB_succ hA2]; simp [rV, rN, rK, sel, seaB, vacB, wek_and hxk.2.2.1 hxk.2.2.2, *] <;> omega)), (by first | exact sub_int rfl (by omega) | rfl | exact sub_eq rfl (by rw [fB_succ hA2]; simp [rV, rN, rK, sel, seaB, vacB, wek_and hxk.2.2.1 hxk.2.2.2, *] <;> omega)), (by first | exact sub_int rfl (by omega) | rfl | exact sub_eq rfl (by rw [fB_succ hA2]; simp [rV, rN, rK, sel, seaB, vacB, wek_and hxk.2.2.1 hxk.2.2.2, *] <;> omega)), trivial⟩, rfl⟩
            refine a_nil ?_
            refine tq_n ?_
            refine w_false rfl ?_
            refine awp_skip ?_
            refine bq_n ?_
            refine tq_n ?_
            exact ⟨(), (by rw [fB_succ hA2, hVk]; simp [rV, sel, vacB, *] <;> omega), ⟨(by first | exact sub_int rfl (by omega) | rfl | exact sub_eq rfl (by rw [fB_succ hA2]; simp [rV, rN, rK, sel, seaB, vacB, wek_and hxk.2.2.1 hxk.2.2.2, *] <;> omega)), (by first | exact sub_int rfl (by omega) | rfl | exact sub_eq rfl (by rw [fB_succ hA2]; simp [rV, rN, rK, sel, seaB, vacB, wek_and hxk.2.2.1 hxk.2.2.2, *] <;> omega)), (by first | exact sub_int rfl (by omega) | rfl | exact sub_eq rfl (by rw [fB_succ hA2]; simp [rV, rN, rK, sel, seaB, vacB, wek_and hxk.2.2.1 hxk.2.2.2, *] <;> omega)), (by first | exact sub_int rfl (by omega) | rfl | exact sub_eq rfl (by rw [fB_succ hA2]; simp [rV, rN, rK, sel, seaB, vacB, wek_and hxk.2.2.1 hxk.2.2.2, *] <;> omega)), (by first | exact sub_int rfl (by omega) | rfl | exact sub_eq rfl (by rw [fB_succ hA2]; simp [rV, rN, rK, sel, seaB, vacB, wek_and hxk.2.2.1 hxk.2.2.2, *] <;> omega)), (by first | exact sub_int rfl (by omega) | rfl | exact sub_eq rfl (by rw [fB_succ hA2]; simp [rV, rN, rK, sel, seaB, vacB, wek_and hxk.2.2.1 hxk.2.2.2, *] <;> omega)), (by first | exact sub_int rfl (by omega) | rfl | exact sub_eq rfl (by rw [fB_succ hA2]; simp [rV, rN, rK, sel, seaB, vacB, wek_and hxk.2.2.1 hxk.2.2.2, *] <;> omega)), (by first | exact sub_int rfl (by omega) | rfl | exact sub_eq rfl (by rw [fB_succ hA2]; simp [rV, rN, rK, sel, seaB, vacB, wek_and hxk.2.2.1 hxk.2.2.2, *] <;> omega)), (by first | exact sub_int rfl (by omega) | rfl | exact sub_eq rfl (by rw [fB_succ hA2]; simp [rV, rN, rK, sel, seaB, vacB, wek_and hxk.2.2.1 hxk.2.2.2, *] <;> omega)), (by first | exact sub_int rfl (by omega) | rfl | exact sub_eq rfl (by rw [fB_succ hA2]; simp [rV, rN, rK, sel, seaB, vacB, wek_and hxk.2.2.1 hxk.2.2.2, *] <;> omega)), (by first | exact sub_int rfl (by omega) | rfl | exact sub_eq rfl (by rw [fB_succ hA2]; simp [rV, rN, rK, sel, seaB, vacB, wek_and hxk.2.2.1 hxk.2.2.2, *] <;> omega)), trivial⟩, rfl⟩
          refine a_nil ?_
          refine tq_n ?_
          refine w_false rfl ?_
          refine awp_skip ?_
          refine tq_n ?_
          refine awp_seq ?_
          refine w_reg (l := r54_19.toList) rfl r54_19_ok ?_
          refine a_op rfl ((by first | exact o_fa tf37_1 rfl rfl | exact o_fap tf37_1 rfl rfl)) ?_
          refine a_op rfl ((by first | exact o_ld tg5 rfl rfl | exact o_ldp tg5 rfl rfl rfl rfl)) ?_
          refine a_if rfl (o_eq rfl rfl) (fun h39 => ?_) (fun h40 => ?_)
          · refine a_nil ?_
            refine tq_n ?_
            refine w_true rfl ?_
            refine awp_seq ?_
            refine w_reg (l := r54_20.toList) rfl r54_20_ok ?_
            refine a_op rfl (o_as rfl) ?_
            refine a_nil ?_
            refine tq_n ?_
            have hwl := wk_lt day
            have hwk7 : (wk day).toNat < 7 := by omega
            refine awp_draw ⟨[[], [0], [0, 1], [0, 1, 2], [0, 1], [0, 1, 4], [0, 1, 2, 3, 4, 5], [0, 1, 2, 3, 4, 5, 6], [0, 1, 2, 3, 4, 5, 6, 7], [0, 1, 2, 3, 4, 5, 6, 7, 8]], [[17], [82], [19, 83], [83, 84], [4, 83], [83, 86], [83, 85, 87], [83, 88], [83, 89], [90]], [[], [], [], [1], [], [], [], [], [], []], [none, none, none, none, none, none, none, none, none, none]⟩ mo r54_21_ok (by decide +kernel) (l := r54_21.toList) rfl ?_
            refine d_ifb rfl rfl rfl (fun _ => o_mv rfl) (fun h41 => ?_) (fun h42 => ?_)
            · refine d_op rfl rfl rfl (fun _ => o_mv rfl) ?_
              refine d_off rfl rfl ?_
              refine d_off rfl rfl ?_
              refine d_off rfl rfl ?_
              refine d_off rfl rfl ?_
              refine d_off rfl rfl ?_
              refine d_off rfl rfl ?_
              refine d_op rfl rfl rfl (fun _ => o_pkt rfl rfl) ?_
              refine d_op rfl rfl rfl (fun _ => o_as rfl) ?_
              refine d_nil ?_
              refine bq_n ?_
              refine tq_n ?_
              exact ⟨(), (by rw [fB_succ hA2, hVk]; simp [rV, sel, vacB, *] <;> omega), ⟨(by first | exact sub_int rfl (by omega) | rfl | exact sub_eq rfl (by rw [fB_succ hA2]; simp [rV, rN, rK, sel, seaB, vacB, wek_and hxk.2.2.1 hxk.2.2.2, *] <;> omega)), (by first | exact sub_int rfl (by omega) | rfl | exact sub_eq rfl (by rw [fB_succ hA2]; simp [rV, rN, rK, sel, seaB, vacB, wek_and hxk.2.2.1 hxk.2.2.2, *] <;> omega)), (by first | exact sub_int rfl (by omega) | rfl | exact sub_eq rfl (by rw [fB_succ hA2]; simp [rV, rN, rK, sel, seaB, vacB, wek_and hxk.2.2.1 hxk.2.2.2, *] <;> omega)), (by first | exact sub_int rfl (by omega) | rfl | exact sub_eq rfl (by rw [fB_succ hA2]; simp [rV, rN, rK, sel, seaB, vacB, wek_and hxk.2.2.1 hxk.2.2.2, *] <;> omega)), (by first | exact sub_int rfl (by omega) | rfl | exact sub_eq rfl (by rw [fB_succ hA2]; simp [rV, rN, rK, sel, seaB, vacB, wek_and hxk.2.2.1 hxk.2.2.2, *] <;> omega)), (by first | exact sub_int rfl (by omega) | rfl | exact sub_eq rfl (by rw [fB_succ hA2]; simp [rV, rN, rK, sel, seaB, vacB, wek_and hxk.2.2.1 hxk.2.2.2, *] <;> omega)), (by first | exact sub_int rfl (by omega) | rfl | exact sub_eq rfl (by rw [fB_succ hA2]; simp [rV, rN, rK, sel, seaB, vacB, wek_and hxk.2.2.1 hxk.2.2.2, *] <;> omega)), (by first | exact sub_int rfl (by omega) | rfl | exact sub_eq rfl (by rw [fB_succ hA2]; simp [rV, rN, rK, sel, seaB, vacB, wek_and hxk.2.2.1 hxk.2.2.2, *] <;> omega)), (by first | exact sub_int rfl (by omega) | rfl | exact sub_eq rfl (by rw [fB_succ hA2]; simp [rV, rN, rK, sel, seaB, vacB, wek_and hxk.2.2.1 hxk.2.2.2, *] <;> omega)), (by first | exact sub_int rfl (by omega) | rfl | exact sub_eq rfl (by rw [fB_succ hA2]; simp [rV, rN, rK, sel, seaB, vacB, wek_and hxk.2.2.1 hxk.2.2.2, *] <;> omega)), (by first | exact sub_int rfl (by omega) | rfl | exact sub_eq rfl (by rw [fB_succ hA2]; simp [rV, rN, rK, sel, seaB, vacB, wek_and hxk.2.2.1 hxk.2.2.2, *] <;> omega)), trivial⟩, rfl⟩
            refine d_op rfl rfl rfl (fun _ => o_mv rfl) ?_
            refine d_op rfl rfl rfl (fun _ => (by first | exact o_fa tf37_4 rfl rfl | exact o_fap tf37_4 rfl rfl)) ?_
            refine d_op rfl rfl rfl (fun _ => (by first | exact o_ld tg5 rfl rfl | exact o_ldp tg5 rfl rfl rfl rfl)) ?_
            refine d_op rfl rfl rfl (fun _ => o_mv rfl) ?_
            refine d_pure rfl rfl rfl rfl cb86 (bit_ok _) ?_
            refine d_op rfl rfl rfl (fun _ => o_andp rfl rfl hxk.2.2.1 hxk.2.2.2 hwk7) ?_
            refine d_op rfl rfl rfl (fun _ => o_ne rfl rfl) ?_
            refine d_op rfl rfl rfl (fun _ => o_pkf rfl rfl) ?_
            refine d_ifb rfl rfl rfl (fun _ => o_as rfl) (fun h43 => ?_) (fun h44 => ?_)
            · refine d_nil ?_
              refine bq_n ?_
              refine tq_n ?_
              exact ⟨(), (by rw [fB_succ hA2, hVk]; simp [rV, sel, vacB, *] <;> omega), ⟨(by first | exact sub_int rfl (by omega) | rfl | exact sub_eq rfl (by rw [fB_succ hA2]; simp [rV, rN, rK, sel, seaB, vacB, wek_and hxk.2.2.1 hxk.2.2.2, *] <;> omega)), (by first | exact sub_int rfl (by omega) | rfl | exact sub_eq rfl (by rw [fB_succ hA2]; simp [rV, rN, rK, sel, seaB, vacB, wek_and hxk.2.2.1 hxk.2.2.2, *] <;> omega)), (by first | exact sub_int rfl (by omega) | rfl | exact sub_eq rfl (by rw [fB_succ hA2]; simp [rV, rN, rK, sel, seaB, vacB, wek_and hxk.2.2.1 hxk.2.2.2, *] <;> omega)), (by first | exact sub_int rfl (by omega) | rfl | exact sub_eq rfl (by rw [fB_succ hA2]; simp [rV, rN, rK, sel, seaB, vacB, wek_and hxk.2.2.1 hxk.2.2.2, *] <;> omega)), (by first | exact sub_int rfl (by omega) | rfl | exact sub_eq rfl (by rw [fB_succ hA2]; simp [rV, rN, rK, sel, seaB, vacB, wek_and hxk.2.2.1 hxk.2.2.2, *] <;> omega)), (by first | exact sub_int rfl (by omega) | rfl | exact sub_eq rfl (by rw [fB_succ hA2]; simp [rV, rN, rK, sel, seaB, vacB, wek_and hxk.2.2.1 hxk.2.2.2, *] <;> omega)), (by first | exact sub_int rfl (by omega) | rfl | exact sub_eq rfl (by rw [fB_succ hA2]; simp [rV, rN, rK, sel, seaB, vacB, wek_and hxk.2.2.1 hxk.2.2.2, *] <;> omega)), (by first | exact sub_int rfl (by omega) | rfl | exact sub_eq rfl (by rw [fB_succ hA2]; simp [rV, rN, rK, sel, seaB, vacB, wek_and hxk.2.2.1 hxk.2.2.2, *] <;> omega)), (by first | exact sub_int rfl (by omega) | rfl | exact sub_eq rfl (by rw [fB_succ hA2]; simp [rV, rN, rK, sel, seaB, vacB, wek_and hxk.2.2.1 hxk.2.2.2, *] <;> omega)), (by first | exact sub_int rfl (by omega) | rfl | exact sub_eq rfl (by rw [fB_succ hA2]; simp [rV, rN, rK, sel, seaB, vacB, wek_and hxk.2.2.1 hxk.2.2.2, *] <;> omega)), (by first | exact sub_int rfl (by omega) | rfl | exact sub_eq rfl (by rw [fB_succ hA2]; simp [rV, rN, rK, sel, seaB, vacB, wek_and hxk.2.2.1 hxk.2.2.2, *] <;> omega)), trivial⟩, rfl⟩
            refine d_nil ?_
            refine bq_n ?_
            refine tq_n ?_
            exact ⟨(), (by rw [fB_succ hA2, hVk]; simp [rV, sel, vacB, *] <;> omega), ⟨(by first | exact sub_int rfl (by omega) | rfl | exact sub_eq rfl (by rw [fB_succ hA2]; simp [rV, rN, rK, sel, seaB, vacB, wek_and hxk.2.2.1 hxk.2.2.2, *] <;> omega)), (by first | exact sub_int rfl (by omega) | rfl | exact sub_eq rfl (by rw [fB_succ hA2]; simp [rV, rN, rK, sel, seaB, vacB, wek_and hxk.2.2.1 hxk.2.2.2, *] <;> omega)), (by first | exact sub_int rfl (by omega) | rfl | exact sub_eq rfl (by rw [fB_succ hA2]; simp [rV, rN, rK, sel, seaB, vacB, wek_and hxk.2.2.1 hxk.2.2.2, *] <;> omega)), (by first | exact sub_int rfl (by omega) | rfl | exact sub_eq rfl (by rw [fB_succ hA2]; simp [rV, rN, rK, sel, seaB, vacB, wek_and hxk.2.2.1 hxk.2.2.2, *] <;> omega)), (by first | exact sub_int rfl (by omega) | rfl | exact sub_eq rfl (by rw [fB_succ hA2]; simp [rV, rN, rK, sel, seaB, vacB, wek_and hxk.2.2.1 hxk.2.2.2, *] <;> omega)), (by first | exact sub_int rfl (by omega) | rfl | exact sub_eq rfl (by rw [fB_succ hA2]; simp [rV, rN, rK, sel, seaB, vacB, wek_and hxk.2.2.1 hxk.2.2.2, *] <;> omega)), (by first | exact sub_int rfl (by omega) | rfl | exact sub_eq rfl (by rw [fB_succ hA2]; simp [rV, rN, rK, sel, seaB, vacB, wek_and hxk.2.2.1 hxk.2.2.2, *] <;> omega)), (by first | exact sub_int rfl (by omega) | rfl | exact sub_eq rfl (by rw [fB_succ hA2]; simp [rV, rN, rK, sel, seaB, vacB, wek_and hxk.2.2.1 hxk.2.2.2, *] <;> omega)), (by first | exact sub_int rfl (by omega) | rfl | exact sub_eq rfl (by rw [fB_succ hA2]; simp [rV, rN, rK, sel, seaB, vacB, wek_and hxk.2.2.1 hxk.2.2.2, *] <;> omega)), (by first | exact sub_int rfl (by omega) | rfl | exact sub_eq rfl (by rw [fB_succ hA2]; simp [rV, rN, rK, sel, seaB, vacB, wek_and hxk.2.2.1 hxk.2.2.2, *] <;> omega)), (by first | exact sub_int rfl (by omega) | rfl | exact sub_eq rfl (by rw [fB_succ hA2]; simp [rV, rN, rK, sel, seaB, vacB, wek_and hxk.2.2.1 hxk.2.2.2, *] <;> omega)), trivial⟩, rfl⟩
          refine a_nil ?_
          refine tq_n ?_
          refine w_false rfl ?_
          refine awp_skip ?_
          refine bq_n ?_
          refine tq_n ?_
          exact ⟨(), (by rw [fB_succ hA2, hVk]; simp [rV, sel, vacB, *] <;> omega), ⟨(by first | exact sub_int rfl (by omega) | rfl | exact sub_eq rfl (by rw [fB_succ hA2]; simp [rV, rN, rK, sel, seaB, vacB, wek_and hxk.2.2.1 hxk.2.2.2, *] <;> omega)), (by first | exact sub_int rfl (by omega) | rfl | exact sub_eq rfl (by rw [fB_succ hA2]; simp [rV, rN, rK, sel, seaB, vacB, wek_and hxk.2.2.1 hxk.2.2.2, *] <;> omega)), (by first | exact sub_int rfl (by omega) | rfl | exact sub_eq rfl (by rw [fB_succ hA2]; simp [rV, rN, rK, sel, seaB, vacB, wek_and hxk.2.2.1 hxk.2.2.2, *] <;> omega)), (by first | exact sub_int rfl (by omega) | rfl | exact sub_eq rfl (by rw [fB_succ hA2]; simp [rV, rN, rK, sel, seaB, vacB, wek_and hxk.2.2.1 hxk.2.2.2, *] <;> omega)), (by first | exact sub_int rfl (by omega) | rfl | exact sub_eq rfl (by rw [fB_succ hA2]; simp [rV, rN, rK, sel, seaB, vacB, wek_and hxk.2.2.1 hxk.2.2.2, *] <;> omega)), (by first | exact sub_int rfl (by omega) | rfl | exact sub_eq rfl (by rw [fB_succ hA2]; simp [rV, rN, rK, sel, seaB, vacB, wek_and hxk.2.2.1 hxk.2.2.2, *] <;> omega)), (by first | exact sub_int rfl (by omega) | rfl | exact sub_eq rfl (by rw [fB_succ hA2]; simp [rV, rN, rK, sel, seaB, vacB, wek_and hxk.2.2.1 hxk.2.2.2, *] <;> omega)), (by first | exact sub_int rfl (by omega) | rfl | exact sub_eq rfl (by rw [fB_succ hA2]; simp [rV, rN, rK, sel, seaB, vacB, wek_and hxk.2.2.1 hxk.2.2.2, *] <;> omega)), (by first | exact sub_int rfl (by omega) | rfl | exact sub_eq rfl (by rw [fB_succ hA2]; simp [rV, rN, rK, sel, seaB, vacB, wek_and hxk.2.2.1 hxk.2.2.2, *] <;> omega)), (by first | exact sub_int rfl (by omega) | rfl | exact sub_eq rfl (by rw [fB_succ hA2]; simp [rV, rN, rK, sel, seaB, vacB, wek_and hxk.2.2.1 hxk.2.2.2, *] <;> omega)), (by first | exact sub_int rfl (by omega) | rfl | exact sub_eq rfl (by rw [fB_succ hA2]; simp [rV, rN, rK, sel, seaB, vacB, wek_and hxk.2.2.1 hxk.2.2.2, *] <;> omega)), trivial⟩, rfl⟩
        refine a_op rfl (o_pkt rfl rfl) ?_
        refine a_op rfl (o_mv rfl) ?_
        refine a_off rfl ?_
        refine a_off rfl ?_
        refine a_off rfl ?_
        refine a_off rfl ?_
        refine a_op rfl (o_pkf rfl rfl) ?_
        refine a_nil ?_
        refine tq_n ?_
        refine w_false rfl ?_
        refine awp_skip ?_
        refine tq_n ?_
        refine awp_seq ?_
        refine awp_seq ?_
        refine w_reg (l := r54_15.toList) rfl r54_15_ok ?_
        refine a_op rfl ((by first | exact o_fa tf37_1 rfl rfl | exact o_fap tf37_1 rfl rfl)) ?_
        refine a_op rfl ((by first | exact o_ld tg5 rfl rfl | exact o_ldp tg5 rfl rfl rfl rfl)) ?_
        refine a_if rfl (o_eq rfl rfl) (fun h45 => ?_) (fun h46 => ?_)
        · refine a_nil ?_
          refine tq_n ?_
          refine w_true rfl ?_
          refine awp_seq ?_
          refine w_reg (l := r54_16.toList) rfl r54_16_ok ?_
          refine a_op rfl (o_as rfl) ?_
          refine a_nil ?_
          refine tq_n ?_
          refine awp_seq ?_
          refine w_reg (l := r54_17.toList) rfl r54_17_ok ?_
          refine a_op rfl (o_mv rfl) ?_
          refine a_op rfl ((by first | exact o_fa tf37_2 rfl rfl | exact o_fap tf37_2 rfl rfl)) ?_
          refine a_op rfl ((by first | exact o_ld tg3 rfl rfl | exact o_ldp tg3 rfl rfl rfl rfl)) ?_
          refine a_op rfl ((by first | exact o_fa tf37_3 rfl rfl | exact o_fap tf37_3 rfl rfl)) ?_
          refine a_op rfl ((by first | exact o_ld tg3 rfl rfl | exact o_ldp tg3 rfl rfl rfl rfl)) ?_
          refine a_pure rfl rfl rfl cb46 (ryearly_ok _ _ _ hxk.1 hxk.2.1) ?_
          refine a_op rfl (o_mv rfl) ?_
          refine a_op rfl (o_ex rfl rfl) ?_
          refine a_op rfl (o_ex rfl rfl) ?_
          refine a_op rfl (o_as rfl) ?_
          refine a_op rfl (o_as rfl) ?_
          refine a_nil ?_
          refine tq_n ?_
          refine w_reg (l := r54_18.toList) rfl r54_18_ok ?_
          refine a_ifb rfl (o_mv rfl) (fun h47 => ?_) (fun h48 => ?_)
          · refine a_op rfl (o_mv rfl) ?_
            refine a_off rfl ?_
            refine a_op rfl (o_pkt rfl rfl) ?_
            refine a_op rfl (o_as rfl) ?_
            refine a_nil ?_
            refine tq_n ?_
            refine awp_seq ?_
            refine w_reg (l := r54_19.toList) rfl r54_19_ok ?_
            refine a_op rfl ((by first | exact o_fa tf37_1 rfl rfl | exact o_fap tf37_1 rfl rfl)) ?_
            refine a_op rfl ((by first | exact o_ld tg5 rfl rfl | exact o_ldp tg5 rfl rfl rfl rfl)) ?_
            refine a_if rfl (o_eq rfl rfl) (fun h49 => ?_) (fun h50 => ?_)
            · refine a_nil ?_
              refine tq_n ?_
              refine w_true rfl ?_
              refine awp_seq ?_
              refine w_reg (l := r54_20.toList) rfl r54_20_ok ?_
              refine a_op rfl (o_as rfl) ?_
              refine a_nil ?_
              refine tq_n ?_
              have hwl := wk_lt day
              have hwk7 : (wk day).toNat < 7 := by omega
              refine awp_draw ⟨[[], [0], [0, 1], [0, 1, 2], [0, 1], [0, 1, 4], [0, 1, 2, 3, 4, 5], [0, 1, 2, 3, 4, 5, 6], [0, 1, 2, 3, 4, 5, 6, 7], [0, 1, 2, 3, 4, 5, 6, 7, 8]], [[17], [82], [19, 83], [83, 84], [4, 83], [83, 86], [83, 85, 87], [83, 88], [83, 89], [90]], [[], [], [], [1], [], [], [], [], [], []], [none, none, none, none, none, none, none, none, none, none]⟩ mo r54_21_ok (by decide +kernel) (l := r54_21.toList) rfl ?_
              refine d_ifb rfl rfl rfl (fun _ => o_mv rfl) (fun h51 => ?_) (fun h52 => ?_)
              · refine d_op rfl rfl rfl (fun _ => o_mv rfl) ?_
                refine d_off rfl rfl ?_
                refine d_off rfl rfl ?_
                refine d_off rfl rfl ?_
                refine d_off rfl rfl ?_
                refine d_off rfl rfl ?_
                refine d_off rfl rfl ?_
                refine d_op rfl rfl rfl (fun _ => o_pkt rfl rfl) ?_
                refine d_op rfl rfl rfl (fun _ => o_as rfl) ?_
                refine d_nil ?_
                refine bq_n ?_
                refine tq_n ?_
                exact ⟨(), (by rw [fB_succ hA2, hVk]; simp [rV, sel, vacB, *] <;> omega), ⟨(by first | exact sub_int rfl (by omega) | rfl | exact sub_eq rfl (by rw [fB_succ hA2]; simp [rV, rN, rK, sel, seaB, vacB, wek_and hxk.2.2.1 hxk.2.2.2, *] <;> omega)), (by first | exact sub_int rfl (by omega) | rfl | exact sub_eq rfl (by rw [fB_succ hA2]; simp [rV, rN, rK, sel, seaB, vacB, wek_and hxk.2.2.1 hxk.2.2.2, *] <;> omega)), (by first | exact sub_int rfl (by omega) | rfl | exact sub_eq rfl (by rw [fB_succ hA2]; simp [rV, rN, rK, sel, seaB, vacB, wek_and hxk.2.2.1 hxk.2.2.2, *] <;> omega)), (by first | exact sub_int rfl (by omega) | rfl | exact sub_eq rfl (by rw [fB_succ hA2]; simp [rV, rN, rK, sel, seaB, vacB, wek_and hxk.2.2.1 hxk.2.2.2, *] <;> omega)), (by first | exact sub_int rfl (by omega) | rfl | exact sub_eq rfl (by rw [fB_succ hA2]; simp [rV, rN, rK, sel, seaB, vacB, wek_and hxk.2.2.1 hxk.2.2.2, *] <;> omega)), (by first | exact sub_int rfl (by omega) | rfl | exact sub_eq rfl (by rw [fB_succ hA2]; simp [rV, rN, rK, sel, seaB, vacB, wek_and hxk.2.2.1 hxk.2.2.2, *] <;> omega)), (by first | exact sub_int rfl (by omega) | rfl | exact sub_eq rfl (by rw [fB_succ hA2]; simp [rV, rN, rK, sel, seaB, vacB, wek_and hxk.2.2.1 hxk.2.2.2, *] <;> omega)), (by first | exact sub_int rfl (by omega) | rfl | exact sub_eq rfl (by rw [fB_succ hA2]; simp [rV, rN, rK, sel, seaB, vacB, wek_and hxk.2.2.1 hxk.2.2.2, *] <;> omega)), (by first | exact sub_int rfl (by omega) | rfl | exact sub_eq rfl (by rw [fB_succ hA2]; simp [rV, rN, rK, sel, seaB, vacB, wek_and hxk.2.2.1 hxk.2.2.2, *] <;> omega)), (by first | exact sub_int rfl (by omega) | rfl | exact sub_eq rfl (by rw [fB_succ hA2]; simp [rV, rN, rK, sel, seaB, vacB, wek_and hxk.2.2.1 hxk.2.2.2, *] <;> omega)), (by first | exact sub_int rfl (by omega) | rfl | exact sub_eq rfl (by rw [fB_succ hA2]; simp [rV, rN, rK, sel, seaB, vacB, wek_and hxk.2.2.1 hxk.2.2.2, *] <;> omega)), trivial⟩, rfl⟩
              refine d_op rfl rfl rfl (fun _ => o_mv rfl) ?_
              refine d_op rfl rfl rfl (fun _ => (by first | exact o_fa tf37_4 rfl rfl | exact o_fap tf37_4 rfl rfl)) ?_
              refine d_op rfl rfl rfl (fun _ => (by first | exact o_ld tg5 rfl rfl | exact o_ldp tg5 rfl rfl rfl rfl)) ?_
              refine d_op rfl rfl rfl (fun _ => o_mv rfl) ?_
              refine d_pure rfl rfl rfl rfl cb86 (bit_ok _) ?_
              refine d_op rfl rfl rfl (fun _ => o_andp rfl rfl hxk.2.2.1 hxk.2.2.2 hwk7) ?_
              refine d_op rfl rfl rfl (fun _ => o_ne rfl rfl) ?_
              refine d_op rfl rfl rfl (fun _ => o_pkf rfl rfl) ?_
              refine d_ifb rfl rfl rfl (fun _ => o_as rfl) (fun h53 => ?_) (fun h54 => ?_)
              · refine d_nil ?_
                refine bq_n ?_
                refine tq_n ?_
                exact ⟨(), (by rw [fB_succ hA2, hVk]; simp [rV, sel, vacB, *] <;> omega), ⟨(by first | exact sub_int rfl (by omega) | rfl | exact sub_eq rfl (by rw [fB_succ hA2]; simp [rV, rN, rK, sel, seaB, vacB, wek_and hxk.2.2.1 hxk.2.2.2, *] <;> omega)), (by first | exact sub_int rfl (by omega) | rfl | exact sub_eq rfl (by rw [fB_succ hA2]; simp [rV, rN, rK, sel, seaB, vacB, wek_and hxk.2.2.1 hxk.2.2.2, *] <;> omega)), (by first | exact sub_int rfl (by omega) | rfl | exact sub_eq rfl (by rw [fB_succ hA2]; simp [rV, rN, rK, sel, seaB, vacB, wek_and hxk.2.2.1 hxk.2.2.2, *] <;> omega)), (by first | exact sub_int rfl (by omega) | rfl | exact sub_eq rfl (by rw [fB_succ hA2]; simp [rV, rN, rK, sel, seaB, vacB, wek_and hxk.2.2.1 hxk.2.2.2, *] <;> omega)), (by first | exact sub_int rfl (by omega) | rfl | exact sub_eq rfl (by rw [fB_succ hA2]; simp [rV, rN, rK, sel, seaB, vacB, wek_and hxk.2.2.1 hxk.2.2.2, *] <;> omega)), (by first | exact sub_int rfl (by omega) | rfl | exact sub_eq rfl (by rw [fB_succ hA2]; simp [rV, rN, rK, sel, seaB, vacB, wek_and hxk.2.2.1 hxk.2.2.2, *] <;> omega)), (by first | exact sub_int rfl (by omega) | rfl | exact sub_eq rfl (by rw [fB_succ hA2]; simp [rV, rN, rK, sel, seaB, vacB, wek_and hxk.2.2.1 hxk.2.2.2, *] <;> omega)), (by first | exact sub_int rfl (by omega) | rfl | exact sub_eq rfl (by rw [fB_succ hA2]; simp [rV, rN, rK, sel, seaB, vacB, wek_and hxk.2.2.1 hxk.2.2.2, *] <;> omega)), (by first | exact sub_int rfl (by omega) | rfl | exact sub_eq rfl (by rw [fB_succ hA2]; simp [rV, rN, rK, sel, seaB, vacB, wek_and hxk.2.2.1 hxk.2.2.2, *] <;> omega)), (by first | exact sub_int rfl (by omega) | rfl | exact sub_eq rfl (by rw [fB_succ hA2]; simp [rV, rN, rK, sel, seaB, vacB, wek_and hxk.2.2.1 hxk.2.2.2, *] <;> omega)), (by first | exact sub_int rfl (by omega) | rfl | exact sub_eq rfl (by rw [fB_succ hA2]; simp [rV, rN, rK, sel, seaB, vacB, wek_and hxk.2.2.1 hxk.2.2.2, *] <;> omega)), trivial⟩, rfl⟩
              refine d_nil ?_
              refine bq_n ?_
              refine tq_n ?_
              exact ⟨(), (by rw [fB_succ hA2, hVk]; simp [rV, sel, vacB, *] <;> omega), ⟨(by first | exact sub_int rfl (by omega) | rfl | exact sub_eq rfl (by rw [fB_succ hA2]; simp [rV, rN, rK, sel, seaB, vacB, wek_and hxk.2.2.1 hxk.2.2.2, *] <;> omega)), (by first | exact sub_int rfl (by omega) | rfl | exact sub_eq rfl (by rw [fB_succ hA2]; simp [rV, rN, rK, sel, seaB, vacB, wek_and hxk.2.2.1 hxk.2.2.2, *] <;> omega)), (by first | exact sub_int rfl (by omega) | rfl | exact sub_eq rfl (by rw [fB_succ hA2]; simp [rV, rN, rK, sel, seaB, vacB, wek_and hxk.2.2.1 hxk.2.2.2, *] <;> omega)), (by first | exact sub_int rfl (by omega) | rfl | exact sub_eq rfl (by rw [fB_succ hA2]; simp [rV, rN, rK, sel, seaB, vacB, wek_and hxk.2.2.1 hxk.2.2.2, *] <;> omega)), (by first | exact sub_int rfl (by omega) | rfl | exact sub_eq rfl (by rw [fB_succ hA2]; simp [rV, rN, rK, sel, seaB, vacB, wek_and hxk.2.2.1 hxk.2.2.2, *] <;> omega)), (by first | exact sub_int rfl (by omega) | rfl | exact sub_eq rfl (by rw [fB_succ hA2]; simp [rV, rN, rK, sel, seaB, vacB, wek_and hxk.2.2.1 hxk.2.2.2, *] <;> omega)), (by first | exact sub_int rfl (by omega) | rfl | exact sub_eq rfl (by rw [fB_succ hA2]; simp [rV, rN, rK, sel, seaB, vacB, wek_and hxk.2.2.1 hxk.2.2.2, *] <;> omega)), (by first | exact sub_int rfl (by omega) | rfl | exact sub_eq rfl (by rw [fB_succ hA2]; simp [rV, rN, rK, sel, seaB, vacB, wek_and hxk.2.2.1 hxk.2.2.2, *] <;> omega)), (by first | exact sub_int rfl (by omega) | rfl | exact sub_eq rfl (by rw [fB_succ hA2]; simp [rV, rN, rK, sel, seaB, vacB, wek_and hxk.2.2.1 hxk.2.2.2, *] <;> omega)), (by first | exact sub_int rfl (by omega) | rfl | exact sub_eq rfl (by rw [fB_succ hA2]; simp [rV, rN, rK, sel, seaB, vacB, wek_and hxk.2.2.1 hxk.2.2.2, *] <;> omega)), (by first | exact sub_int rfl (by omega) | rfl | exact sub_eq rfl (by rw [fB_succ hA2]; simp [rV, rN, rK, sel, seaB, vacB, wek_and hxk.2.2.1 hxk.2.2.2, *] <;> omega)), trivial⟩, rfl⟩
            refine a_nil ?_
            refine tq_n ?_
            refine w_false rfl ?_
            refine awp_skip ?_
            refine bq_n ?_
            refine tq_n ?_
            exact ⟨(), (by rw [fB_succ hA2, hVk]; simp [rV, sel, vacB, *] <;> omega), ⟨(by first | exact sub_int rfl (by omega) | rfl | exact sub_eq rfl (by rw [fB_succ hA2]; simp [rV, rN, rK, sel, seaB, vacB, wek_and hxk.2.2.1 hxk.2.2.2, *] <;> omega)), (by first | exact sub_int rfl (by omega) | rfl | exact sub_eq rfl (by rw [fB_succ hA2]; simp [rV, rN, rK, sel, seaB, vacB, wek_and hxk.2.2.1 hxk.2.2.2, *] <;> omega)), (by first | exact sub_int rfl (by omega) | rfl | exact sub_eq rfl (by rw [fB_succ hA2]; simp [rV, rN, rK, sel, seaB, vacB, wek_and hxk.2.2.1 hxk.2.2.2, *] <;> omega)), (by first | exact sub_int rfl (by omega) | rfl | exact sub_eq rfl (by rw [fB_succ hA2]; simp [rV, rN, rK, sel, seaB, vacB, wek_and hxk.2.2.1 hxk.2.2.2, *] <;> omega)), (by first | exact sub_int rfl (by omega) | rfl | exact sub_eq rfl (by rw [fB_succ hA2]; simp [rV, rN, rK, sel, seaB, vacB, wek_and hxk.2.2.1 hxk.2.2.2, *] <;> omega)), (by first | exact sub_int rfl (by omega) | rfl | exact sub_eq rfl (by rw [fB_succ hA2]; simp [rV, rN, rK, sel, seaB, vacB, wek_and hxk.2.2.1 hxk.2.2.2, *] <;> omega)), (by first | exact sub_int rfl (by omega) | rfl | exact sub_eq rfl (by rw [fB_succ hA2]; simp [rV, rN, rK, sel, seaB, vacB, wek_and hxk.2.2.1 hxk.2.2.2, *] <;> omega)), (by first | exact sub_int rfl (by omega) | rfl | exact sub_eq rfl (by rw [fB_succ hA2]; simp [rV, rN, rK, sel, seaB, vacB, wek_and hxk.2.2.1 hxk.2.2.2, *] <;> omega)), (by first | exact sub_int rfl (by omega) | rfl | exact sub_eq rfl (by rw [fB_succ hA2]; simp [rV, rN, rK, sel, seaB, vacB, wek_and hxk.2.2.1 hxk.2.2.2, *] <;> omega)), (by first | exact sub_int rfl (by omega) | rfl | exact sub_eq rfl (by rw [fB_succ hA2]; simp [rV, rN, rK, sel, seaB, vacB, wek_and hxk.2.2.1 hxk.2.2.2, *] <;> omega)), (by first | exact sub_int rfl (by omega) | rfl | exact sub_eq rfl (by rw [fB_succ hA2]; simp [rV, rN, rK, sel, seaB, vacB, wek_and hxk.2.2.1 hxk.2.2.2, *] <;> omega)), trivial⟩, rfl⟩
          refine a_op rfl (o_mv rfl) ?_
          refine a_op rfl (o_mv rfl) ?_
          refine a_op rfl (o_pkf rfl rfl) ?_
          refine a_ifb rfl (o_as rfl) (fun h55 => ?_) (fun h56 => ?_)
          · refine a_nil ?_
            refine tq_n ?_
            refine awp_seq ?_
            refine w_reg (l := r54_19.toList) rfl r54_19_ok ?_
            refine a_op rfl ((by first | exact o_fa tf37_1 rfl rfl | exact o_fap tf37_1 rfl rfl)) ?_
            refine a_op rfl ((by first | exact o_ld tg5 rfl rfl | exact o_ldp tg5 rfl rfl rfl rfl)) ?_
            refine a_if rfl (o_eq rfl rfl) (fun h57 => ?_) (fun h58 => ?_)
            · refine a_nil ?_
              refine tq_n ?_
              refine w_true rfl ?_
              refine awp_seq ?_
              refine w_reg (l := r54_20.toList) rfl r54_20_ok ?_
              refine a_op rfl (o_as rfl) ?_
              refine a_nil ?_
              refine tq_n ?_
              have hwl := wk_lt day
              have hwk7 : (wk day).toNat < 7 := by omega
              refine awp_draw ⟨[[], [0], [0, 1], [0, 1, 2], [0, 1], [0, 1, 4], [0, 1, 2, 3, 4, 5], [0, 1, 2, 3, 4, 5, 6], [0, 1, 2, 3, 4, 5, 6, 7], [0, 1, 2, 3, 4, 5, 6, 7, 8]], [[17], [82], [19, 83], [83, 84], [4, 83], [83, 86], [83, 85, 87], [83, 88], [83, 89], [90]], [[], [], [], [1], [], [], [], [], [], []], [none, none, none, none, none, none, none, none, none, none]⟩ mo r54_21_ok (by decide +kernel) (l := r54_21.toList) rfl ?_
              refine d_ifb rfl rfl rfl (fun _ => o_mv rfl) (fun h59 => ?_) (fun h60 => ?_)
              · refine d_op rfl rfl rfl (fun _ => o_mv rfl) ?_
                refine d_off rfl rfl ?_
                refine d_off rfl rfl ?_
                refine d_off rfl rfl ?_
                refine d_off rfl rfl ?_
                refine d_off rfl rfl ?_
                refine d_off rfl rfl ?_
                refine d_op rfl rfl rfl (fun _ => o_pkt rfl rfl) ?_
                refine d_op rfl rfl rfl (fun _ => o_as rfl) ?_
                refine d_nil ?_
                refine bq_n ?_
                refine tq_n ?_
                exact ⟨(), (by rw [fB_succ hA2, hVk]; simp [rV, sel, vacB, *] <;> omega), ⟨(by first | exact sub_int rfl (by omega) | rfl | exact sub_eq rfl (by rw [fB_succ hA2]; simp [rV, rN, rK, sel, seaB, vacB, wek_and hxk.2.2.1 hxk.2.2.2, *] <;> omega)), (by first | exact sub_int rfl (by omega) | rfl | exact sub_eq rfl (by rw [fB_succ hA2]; simp [rV, rN, rK, sel, seaB, vacB, wek_and hxk.2.2.1 hxk.2.2.2, *] <;> omega)), (by first | exact sub_int rfl (by omega) | rfl | exact sub_eq rfl (by rw [fB_succ hA2]; simp [rV, rN, rK, sel, seaB, vacB, wek_and hxk.2.2.1 hxk.2.2.2, *] <;> omega)), (by first | exact sub_int rfl (by omega) | rfl | exact sub_eq rfl (by rw [fB_succ hA2]; simp [rV, rN, rK, sel, seaB, vacB, wek_and hxk.2.2.1 hxk.2.2.2, *] <;> omega)), (by first | exact sub_int rfl (by omega) | rfl | exact sub_eq rfl (by rw [fB_succ hA2]; simp [rV, rN, rK, sel, seaB, vacB, wek_and hxk.2.2.1 hxk.2.2.2, *] <;> omega)), (by first | exact sub_int rfl (by omega) | rfl | exact sub_eq rfl (by rw [fB_succ hA2]; simp [rV, rN, rK, sel, seaB, vacB, wek_and hxk.2.2.1 hxk.2.2.2, *] <;> omega)), (by first | exact sub_int rfl (by omega) | rfl | exact sub_eq rfl (by rw [fB_succ hA2]; simp [rV, rN, rK, sel, seaB, vacB, wek_and hxk.2.2.1 hxk.2.2.2, *] <;> omega)), (by first | exact sub_int rfl (by omega) | rfl | exact sub_eq rfl (by rw [fB_succ hA2]; simp [rV, rN, rK, sel, seaB, vacB, wek_and hxk.2.2.1 hxk.2.2.2, *] <;> omega)), (by first | exact sub_int rfl (by omega) | rfl | exact sub_eq rfl (by rw [fB_succ hA2]; simp [rV, rN, rK, sel, seaB, vacB, wek_and hxk.2.2.1 hxk.2.2.2, *] <;> omega)), (by first | exact sub_int rfl (by omega) | rfl | exact sub_eq rfl (by rw [fB_succ hA2]; simp [rV, rN, rK, sel, seaB, vacB, wek_and hxk.2.2.1 hxk.2.2.2, *] <;> omega)), (by first | exact sub_int rfl (by omega) | rfl | exact sub_eq rfl (by rw [fB_succ hA2]; simp [rV, rN, rK, sel, seaB, vacB, wek_and hxk.2.2.1 hxk.2.2.2, *] <;> omega)), trivial⟩, rfl⟩
              refine d_op rfl rfl rfl (fun _ => o_mv rfl) ?_
              refine d_op rfl rfl rfl (fun _ => (by first | exact o_fa tf37_4 rfl rfl | exact o_fap tf37_4 rfl rfl)) ?_
              refine d_op rfl rfl rfl (fun _ => (by first | exact o_ld tg5 rfl rfl | exact o_ldp tg5 rfl rfl rfl rfl)) ?_
              refine d_op rfl rfl rfl (fun _ => o_mv rfl) ?_
              refine d_pure rfl rfl rfl rfl cb86 (bit_ok _) ?_
              refine d_op rfl rfl rfl (fun _ => o_andp rfl rfl hxk.2.2.1 hxk.2.2.2 hwk7) ?_
              refine d_op rfl rfl rfl (fun _ => o_ne rfl rfl) ?_
              refine d_op rfl rfl rfl (fun _ => o_pkf rfl rfl) ?_
              refine d_ifb rfl rfl rfl (fun _ => o_as rfl) (fun h61 => ?_) (fun h62 => ?_)
              · refine d_nil ?_
                refine bq_n ?_
                refine tq_n ?_
                exact ⟨(), (by rw [fB_succ hA2, hVk]; simp [rV, sel, vacB, *] <;> omega), ⟨(by first | exact sub_int rfl (by omega) | rfl | exact sub_eq rfl (by rw [fB_succ hA2]; simp [rV, rN, rK, sel, seaB, vacB, wek_and hxk.2.2.1 hxk.2.2.2, *] <;> omega)), (by first | exact sub_int rfl (by omega) | rfl | exact sub_eq rfl (by rw [fB_succ hA2]; simp [rV, rN, rK, sel, seaB, vacB, wek_and hxk.2.2.1 hxk.2.2.2, *] <;> omega)), (by first | exact sub_int rfl (by omega) | rfl | exact sub_eq rfl (by rw [fB_succ hA2]; simp [rV, rN, rK, sel, seaB, vacB, wek_and hxk.2.2.1 hxk.2.2.2, *] <;> omega)), (by first | exact sub_int rfl (by omega) | rfl | exact sub_eq rfl (by rw [fB_succ hA2]; simp [rV, rN, rK, sel, seaB, vacB, wek_and hxk.2.2.1 hxk.2.2.2, *] <;> omega)), (by first | exact sub_int rfl (by omega) | rfl | exact sub_eq rfl (by rw [fB_succ hA2]; simp [rV, rN, rK, sel, seaB, vacB, wek_and hxk.2.2.1 hxk.2.2.2, *] <;> omega)), (by first | exact sub_int rfl (by omega) | rfl | exact sub_eq rfl (by rw [fB_succ hA2]; simp [rV, rN, rK, sel, seaB, vacB, wek_and hxk.2.2.1 hxk.2.2.2, *] <;> omega)), (by first | exact sub_int rfl (by omega) | rfl | exact sub_eq rfl (by rw [fB_succ hA2]; simp [rV, rN, rK, sel, seaB, vacB, wek_and hxk.2.2.1 hxk.2.2.2, *] <;> omega)), (by first | exact sub_int rfl (by omega) | rfl | exact sub_eq rfl (by rw [fB_succ hA2]; simp [rV, rN, rK, sel, seaB, vacB, wek_and hxk.2.2.1 hxk.2.2.2, *] <;> omega)), (by first | exact sub_int rfl (by omega) | rfl | exact sub_eq rfl (by rw [fB_succ hA2]; simp [rV, rN, rK, sel, seaB, vacB, wek_and hxk.2.2.1 hxk.2.2.2, *] <;> omega)), (by first | exact sub_int rfl (by omega) | rfl | exact sub_eq rfl (by rw [fB_succ hA2]; simp [rV, rN, rK, sel, seaB, vacB, wek_and hxk.2.2.1 hxk.2.2.2, *] <;> omega)), (by first | exact sub_int rfl (by omega) | rfl | exact sub_eq rfl (by rw [fB_succ hA2]; simp [rV, rN, rK, sel, seaB, vacB, wek_and hxk.2.2.1 hxk.2.2.2, *] <;> omega)), trivial⟩, rfl⟩
              refine d_nil ?_
              refine bq_n ?_
              refine tq_n ?_
              exact ⟨(), (by rw [fB_succ hA2, hVk]; simp [rV, sel, vacB, *] <;> omega), ⟨(by first | exact sub_int rfl (by omega) | rfl | exact sub_eq rfl (by rw [fB_succ hA2]; simp [rV, rN, rK, sel, seaB, vacB, wek_and hxk.2.2.1 hxk.2.2.2, *] <;> omega)), (by first | exact sub_int rfl (by omega) | rfl | exact sub_eq rfl (by rw [fB_succ hA2]; simp [rV, rN, rK, sel, seaB, vacB, wek_and hxk.2.2.1 hxk.2.2.2, *] <;> omega)), (by first | exact sub_int rfl (by omega) | rfl | exact sub_eq rfl (by rw [fB_succ hA2]; simp [rV, rN, rK, sel, seaB, vacB, wek_and hxk.2.2.1 hxk.2.2.2, *] <;> omega)), (by first | exact sub_int rfl (by omega) | rfl | exact sub_eq rfl (by rw [fB_succ hA2]; simp [rV, rN, rK, sel, seaB, vacB, wek_and hxk.2.2.1 hxk.2.2.2, *] <;> omega)), (by first | exact sub_int rfl (by omega) | rfl | exact sub_eq rfl (by rw [fB_succ hA2]; simp [rV, rN, rK, sel, seaB, vacB, wek_and hxk.2.2.1 hxk.2.2.2, *] <;> omega)), (by first | exact sub_int rfl (by omega) | rfl | exact sub_eq rfl (by rw [fB_succ hA2]; simp [rV, rN, rK, sel, seaB, vacB, wek_and hxk.2.2.1 hxk.2.2.2, *] <;> omega)), (by first | exact sub_int rfl (by omega) | rfl | exact sub_eq rfl (by rw [fB_succ hA2]; simp [rV, rN, rK, sel, seaB, vacB, wek_and hxk.2.2.1 hxk.2.2.2, *] <;> omega)), (by first | exact sub_int rfl (by omega) | rfl | exact sub_eq rfl (by rw [fB_succ hA2]; simp [rV, rN, rK, sel, seaB, vacB, wek_and hxk.2.2.1 hxk.2.2.2, *] <;> omega)), (by first | exact sub_int rfl (by omega) | rfl | exact sub_eq rfl (by rw [fB_succ hA2]; simp [rV, rN, rK, sel, seaB, vacB, wek_and hxk.2.2.1 hxk.2.2.2, *] <;> omega)), (by first | exact sub_int rfl (by omega) | rfl | exact sub_eq rfl (by rw [fB_succ hA2]; simp [rV, rN, rK, sel, seaB, vacB, wek_and hxk.2.2.1 hxk.2.2.2, *] <;> omega)), (by first | exact sub_int rfl (by omega) | rfl | exact sub_eq rfl (by rw [fB_succ hA2]; simp [rV, rN, rK, sel, seaB, vacB, wek_and hxk.2.2.1 hxk.2.2.2, *] <;> omega)), trivial⟩, rfl⟩
            refine a_nil ?_
            refine tq_n ?_
            refine w_false rfl ?_
            refine awp_skip ?_
            refine bq_n ?_
            refine tq_n ?_
            exact ⟨(), (by rw [fB_succ hA2, hVk]; simp [rV, sel, vacB, *] <;> omega), ⟨(by first | exact sub_int rfl (by omega) | rfl | exact sub_eq rfl (by rw [fB_succ hA2]; simp [rV, rN, rK, sel, seaB, vacB, wek_and hxk.2.2.1 hxk.2.2.2, *] <;> omega)), (by first | exact sub_int rfl (by omega) | rfl | exact sub_eq rfl (by rw [fB_succ hA2]; simp [rV, rN, rK, sel, seaB, vacB, wek_and hxk.2.2.1 hxk.2.2.2, *] <;> omega)), (by first | exact sub_int rfl (by omega) | rfl | exact sub_eq rfl (by rw [fB_succ hA2]; simp [rV, rN, rK, sel, seaB, vacB, wek_and hxk.2.2.1 hxk.2.2.2, *] <;> omega)), (by first | exact sub_int rfl (by omega) | rfl | exact sub_eq rfl (by rw [fB_succ hA2]; simp [rV, rN, rK, sel, seaB, vacB, wek_and hxk.2.2.1 hxk.2.2.2, *] <;> omega)), (by first | exact sub_int rfl (by omega) | rfl | exact sub_eq rfl (by rw [fB_succ hA2]; simp [rV, rN, rK, sel, seaB, vacB, wek_and hxk.2.2.1 hxk.2.2.2, *] <;> omega)), (by first | exact sub_int rfl (by omega) | rfl | exact sub_eq rfl (by rw [fB_succ hA2]; simp [rV, rN, rK, sel, seaB, vacB, wek_and hxk.2.2.1 hxk.2.2.2, *] <;> omega)), (by first | exact sub_int rfl (by omega) | rfl | exact sub_eq rfl (by rw [fB_succ hA2]; simp [rV, rN, rK, sel, seaB, vacB, wek_and hxk.2.2.1 hxk.2.2.2, *] <;> omega)), (by first | exact sub_int rfl (by omega) | rfl | exact sub_eq rfl (by rw [fB_succ hA2]; simp [rV, rN, rK, sel, seaB, vacB, wek_and hxk.2.2.1 hxk.2.2.2, *] <;> omega)), (by first | exact sub_int rfl (by omega) | rfl | exact sub_eq rfl (by rw [fB_succ hA2]; simp [rV, rN, rK, sel, seaB, vacB, wek_and hxk.2.2.1 hxk.2.2.2, *] <;> omega)), (by first | exact sub_int rfl (by omega) | rfl | exact sub_eq rfl (by rw [fB_succ hA2]; simp [rV, rN, rK, sel, seaB, vacB, wek_and hxk.2.2.1 hxk.2.2.2, *] <;> omega)), (by first | exact sub_int rfl (by omega) | rfl | exact sub_eq rfl (by rw [fB_succ hA2]; simp [rV, rN, rK, sel, seaB, vacB, wek_and hxk.2.2.1 hxk.2.2.2, *] <;> omega)), trivial⟩, rfl⟩
          refine a_nil ?_
          refine tq_n ?_
          refine awp_seq ?_
          refine w_reg (l := r54_19.toList) rfl r54_19_ok ?_
          refine a_op rfl ((by first | exact o_fa tf37_1 rfl rfl | exact o_fap tf37_1 rfl rfl)) ?_
          refine a_op rfl ((by first | exact o_ld tg5 rfl rfl | exact o_ldp tg5 rfl rfl rfl rfl)) ?_
          refine a_if rfl (o_eq rfl rfl) (fun h63 => ?_) (fun h64 => ?_)
          · refine a_nil ?_
            refine tq_n ?_
            refine w_true rfl ?_
            refine awp_seq ?_
            refine w_reg (l := r54_20.toList) rfl r54_20_ok ?_
            refine a_op rfl (o_as rfl) ?_
            refine a_nil ?_
            refine tq_n ?_
            have hwl := wk_lt day
            have hwk7 : (wk day).toNat < 7 := by omega
            refine awp_draw ⟨[[], [0], [0, 1], [0, 1, 2], [0, 1], [0, 1, 4], [0, 1, 2, 3, 4, 5], [0, 1, 2, 3, 4, 5, 6], [0, 1, 2, 3, 4, 5, 6, 7], [0, 1, 2, 3, 4, 5, 6, 7, 8]], [[17], [82], [19, 83], [83, 84], [4, 83], [83, 86], [83, 85, 87], [83, 88], [83, 89], [90]], [[], [], [], [1], [], [], [], [], [], []], [none, none, none, none, none, none, none, none, none, none]⟩ mo r54_21_ok (by decide +kernel) (l := r54_21.toList) rfl ?_
            refine d_ifb rfl rfl rfl (fun _ => o_mv rfl) (fun h65 => ?_) (fun h66 => ?_)
            · refine d_op rfl rfl rfl (fun _ => o_mv rfl) ?_
              refine d_off rfl rfl ?_
              refine d_off rfl rfl ?_
              refine d_off rfl rfl ?_
              refine d_off rfl rfl ?_
              refine d_off rfl rfl ?_
              refine d_off rfl rfl ?_
              refine d_op rfl rfl rfl (fun _ => o_pkt rfl rfl) ?_
              refine d_op rfl rfl rfl (fun _ => o_as rfl) ?_
              refine d_nil ?_
              refine bq_n ?_
              refine tq_n ?_
              exact ⟨(), (by rw [fB_succ hA2, hVk]; simp [rV, sel, vacB, *] <;> omega), ⟨(by first | exact sub_int rfl (by omega) | rfl | exact sub_eq rfl (by rw [fB_succ hA2]; simp [rV, rN, rK, sel, seaB, vacB, wek_and hxk.2.2.1 hxk.2.2.2, *] <;> omega)), (by first | exact sub_int rfl (by omega) | rfl | exact sub_eq rfl (by rw [fB_succ hA2]; simp [rV, rN, rK, sel, seaB, vacB, wek_and hxk.2.2.1 hxk.2.2.2, *] <;> omega)), (by first | exact sub_int rfl (by omega) | rfl | exact sub_eq rfl (by rw [fB_succ hA2]; simp [rV, rN, rK, sel, seaB, vacB, wek_and hxk.2.2.1 hxk.2.2.2, *] <;> omega)), (by first | exact sub_int rfl (by omega) | rfl | exact sub_eq rfl (by rw [fB_succ hA2]; simp [rV, rN, rK, sel, seaB, vacB, wek_and hxk.2.2.1 hxk.2.2.2, *] <;> omega)), (by first | exact sub_int rfl (by omega) | rfl | exact sub_eq rfl (by rw [fB_succ hA2]; simp [rV, rN, rK, sel, seaB, vacB, wek_and hxk.2.2.1 hxk.2.2.2, *] <;> omega)), (by first | exact sub_int rfl (by omega) | rfl | exact sub_eq rfl (by rw [fB_succ hA2]; simp [rV, rN, rK, sel, seaB, vacB, wek_and hxk.2.2.1 hxk.2.2.2, *] <;> omega)), (by first | exact sub_int rfl (by omega) | rfl | exact sub_eq rfl (by rw [fB_succ hA2]; simp [rV, rN, rK, sel, seaB, vacB, wek_and hxk.2.2.1 hxk.2.2.2, *] <;> omega)), (by first | exact sub_int rfl (by omega) | rfl | exact sub_eq rfl (by rw [fB_succ hA2]; simp [rV, rN, rK, sel, seaB, vacB, wek_and hxk.2.2.1 hxk.2.2.2, *] <;> omega)), (by first | exact sub_int rfl (by omega) | rfl | exact sub_eq rfl (by rw [fB_succ hA2]; simp [rV, rN, rK, sel, seaB, vacB, wek_and hxk.2.2.1 hxk.2.2.2, *] <;> omega)), (by first | exact sub_int rfl (by omega) | rfl | exact sub_eq rfl (by rw [fB_succ hA2]; simp [rV, rN, rK, sel, seaB, vacB, wek_and hxk.2.2.1 hxk.2.2.2, *] <;> omega)), (by first | exact sub_int rfl (by omega) | rfl | exact sub_eq rfl (by rw [fB_succ hA2]; simp [rV, rN, rK, sel, seaB, vacB, wek_and hxk.2.2.1 hxk.2.2.2, *] <;> omega)), trivial⟩, rfl⟩
            refine d_op rfl rfl rfl (fun _ => o_mv rfl) ?_
            refine d_op rfl rfl rfl (fun _ => (by first | exact o_fa tf37_4 rfl rfl | exact o_fap tf37_4 rfl rfl)) ?_
            refine d_op rfl rfl rfl (fun _ => (by first | exact o_ld tg5 rfl rfl | exact o_ldp tg5 rfl rfl rfl rfl)) ?_
            refine d_op rfl rfl rfl (fun _ => o_mv rfl) ?_
            refine d_pure rfl rfl rfl rfl cb86 (bit_ok _) ?_
            refine d_op rfl rfl rfl (fun _ => o_andp rfl rfl hxk.2.2.1 hxk.2.2.2 hwk7) ?_
            refine d_op rfl rfl rfl (fun _ => o_ne rfl rfl) ?_
            refine d_op rfl rfl rfl (fun _ => o_pkf rfl rfl) ?_
            refine d_ifb rfl rfl rfl (fun _ => o_as rfl) (fun h67 => ?_) (fun h68 => ?_)
            · refine d_nil ?_
              refine bq_n ?_
              refine tq_n ?_
              exact ⟨(), (by rw [fB_succ hA2, hVk]; simp [rV, sel, vacB, *] <;> omega), ⟨(by first | exact sub_int rfl (by omega) | rfl | exact sub_eq rfl (by rw [fB_succ hA2]; simp [rV, rN, rK, sel, seaB, vacB, wek_and hxk.2.2.1 hxk.2.2.2, *] <;> omega)), (by first | exact sub_int rfl (by omega) | rfl | exact sub_eq rfl (by rw [fB_succ hA2]; simp [rV, rN, rK, sel, seaB, vacB, wek_and hxk.2.2.1 hxk.2.2.2, *] <;> omega)), (by first | exact sub_int rfl (by omega) | rfl | exact sub_eq rfl (by rw [fB_succ hA2]; simp [rV, rN, rK, sel, seaB, vacB, wek_and hxk.2.2.1 hxk.2.2.2, *] <;> omega)), (by first | exact sub_int rfl (by omega) | rfl | exact sub_eq rfl (by rw [fB_succ hA2]; simp [rV, rN, rK, sel, seaB, vacB, wek_and hxk.2.2.1 hxk.2.2.2, *] <;> omega)), (by first | exact sub_int rfl (by omega) | rfl | exact sub_eq rfl (by rw [fB_succ hA2]; simp [rV, rN, rK, sel, seaB, vacB, wek_and hxk.2.2.1 hxk.2.2.2, *] <;> omega)), (by first | exact sub_int rfl (by omega) | rfl | exact sub_eq rfl (by rw [fB_succ hA2]; simp [rV, rN, rK, sel, seaB, vacB, wek_and hxk.2.2.1 hxk.2.2.2, *] <;> omega)), (by first | exact sub_int rfl (by omega) | rfl | exact sub_eq rfl (by rw [fB_succ hA2]; simp [rV, rN, rK, sel, seaB, vacB, wek_and hxk.2.2.1 hxk.2.2.2, *] <;> omega)), (by first | exact sub_int rfl (by omega) | rfl | exact sub_eq rfl (by rw [fB_succ hA2]; simp [rV, rN, rK, sel, seaB, vacB, wek_and hxk.2.2.1 hxk.2.2.2, *] <;> omega)), (by first | exact sub_int rfl (by omega) | rfl | exact sub_eq rfl (by rw [fB_succ hA2]; simp [rV, rN, rK, sel, seaB, vacB, wek_and hxk.2.2.1 hxk.2.2.2, *] <;> omega)), (by first | exact sub_int rfl (by omega) | rfl | exact sub_eq rfl (by rw [fB_succ hA2]; simp [rV, rN, rK, sel, seaB, vacB, wek_and hxk.2.2.1 hxk.2.2.2, *] <;> omega)), (by first | exact sub_int rfl (by omega) | rfl | exact sub_eq rfl (by rw [fB_succ hA2]; simp [rV, rN, rK, sel, seaB, vacB, wek_and hxk.2.2.1 hxk.2.2.2, *] <;> omega)), trivial⟩, rfl⟩
            refine d_nil ?_
            refine bq_n ?_
            refine tq_n ?_
            exact ⟨(), (by rw [fB_succ hA2, hVk]; simp [rV, sel, vacB, *] <;> omega), ⟨(by first | exact sub_int rfl (by omega) | rfl | exact sub_eq rfl (by rw [fB_succ hA2]; simp [rV, rN, rK, sel, seaB, vacB, wek_and hxk.2.2.1 hxk.2.2.2, *] <;> omega)), (by first | exact sub_int rfl (by omega) | rfl | exact sub_eq rfl (by rw [fB_succ hA2]; simp [rV, rN, rK, sel, seaB, vacB, wek_and hxk.2.2.1 hxk.2.2.2, *] <;> omega)), (by first | exact sub_int rfl (by omega) | rfl | exact sub_eq rfl (by rw [fB_succ hA2]; simp [rV, rN, rK, sel, seaB, vacB, wek_and hxk.2.2.1 hxk.2.2.2, *] <;> omega)), (by first | exact sub_int rfl (by omega) | rfl | exact sub_eq rfl (by rw [fB_succ hA2]; simp [rV, rN, rK, sel, seaB, vacB, wek_and hxk.2.2.1 hxk.2.2.2, *] <;> omega)), (by first | exact sub_int rfl (by omega) | rfl | exact sub_eq rfl (by rw [fB_succ hA2]; simp [rV, rN, rK, sel, seaB, vacB, wek_and hxk.2.2.1 hxk.2.2.2, *] <;> omega)), (by first | exact sub_int rfl (by omega) | rfl | exact sub_eq rfl (by rw [fB_succ hA2]; simp [rV, rN, rK, sel, seaB, vacB, wek_and hxk.2.2.1 hxk.2.2.2, *] <;> omega)), (by first | exact sub_int rfl (by omega) | rfl | exact sub_eq rfl (by rw [fB_succ hA2]; simp [rV, rN, rK, sel, seaB, vacB, wek_and hxk.2.2.1 hxk.2.2.2, *] <;> omega)), (by first | exact sub_int rfl (by omega) | rfl | exact sub_eq rfl (by rw [fB_succ hA2]; simp [rV, rN, rK, sel, seaB, vacB, wek_and hxk.2.2.1 hxk.2.2.2, *] <;> omega)), (by first | exact sub_int rfl (by omega) | rfl | exact sub_eq rfl (by rw [fB_succ hA2]; simp [rV, rN, rK, sel, seaB, vacB, wek_and hxk.2.2.1 hxk.2.2.2, *] <;> omega)), (by first | exact sub_int rfl (by omega) | rfl | exact sub_eq rfl (by rw [fB_succ hA2]; simp [rV, rN, rK, sel, seaB, vacB, wek_and hxk.2.2.1 hxk.2.2.2, *] <;> omega)), (by first | exact sub_int rfl (by omega) | rfl | exact sub_eq rfl (by rw [fB_succ hA2]; simp [rV, rN, rK, sel, seaB, vacB, wek_and hxk.2.2.1 hxk.2.2.2, *] <;> omega)), trivial⟩, rfl⟩
          refine a_nil ?_
          refine tq_n ?_
          refine w_false rfl ?_
          refine awp_skip ?_
          refine bq_n ?_
          refine tq_n ?_
          exact ⟨(), (by rw [fB_succ hA2, hVk]; simp [rV, sel, vacB, *] <;> omega), ⟨(by first | exact sub_int rfl (by omega) | rfl | exact sub_eq rfl (by rw [fB_succ hA2]; simp [rV, rN, rK, sel, seaB, vacB, wek_and hxk.2.2.1 hxk.2.2.2, *] <;> omega)), (by first | exact sub_int rfl (by omega) | rfl | exact sub_eq rfl (by rw [fB_succ hA2]; simp [rV, rN, rK, sel, seaB, vacB, wek_and hxk.2.2.1 hxk.2.2.2, *] <;> omega)), (by first | exact sub_int rfl (by omega) | rfl | exact sub_eq rfl (by rw [fB_succ hA2]; simp [rV, rN, rK, sel, seaB, vacB, wek_and hxk.2.2.1 hxk.2.2.2, *] <;> omega)), (by first | exact sub_int rfl (by omega) | rfl | exact sub_eq rfl (by rw [fB_succ hA2]; simp [rV, rN, rK, sel, seaB, vacB, wek_and hxk.2.2.1 hxk.2.2.2, *] <;> omega)), (by first | exact sub_int rfl (by omega) | rfl | exact sub_eq rfl (by rw [fB_succ hA2]; simp [rV, rN, rK, sel, seaB, vacB, wek_and hxk.2.2.1 hxk.2.2.2, *] <;> omega)), (by first | exact sub_int rfl (by omega) | rfl | exact sub_eq rfl (by rw [fB_succ hA2]; simp [rV, rN, rK, sel, seaB, vacB, wek_and hxk.2.2.1 hxk.2.2.2, *] <;> omega)), (by first | exact sub_int rfl (by omega) | rfl | exact sub_eq rfl (by rw [fB_succ hA2]; simp [rV, rN, rK, sel, seaB, vacB, wek_and hxk.2.2.1 hxk.2.2.2, *] <;> omega)), (by first | exact sub_int rfl (by omega) | rfl | exact sub_eq rfl (by rw [fB_succ hA2]; simp [rV, rN, rK, sel, seaB, vacB, wek_and hxk.2.2.1 hxk.2.2.2, *] <;> omega)), (by first | exact sub_int rfl (by omega) | rfl | exact sub_eq rfl (by rw [fB_succ hA2]; simp [rV, rN, rK, sel, seaB, vacB, wek_and hxk.2.2.1 hxk.2.2.2, *] <;> omega)), (by first | exact sub_int rfl (by omega) | rfl | exact sub_eq rfl (by rw [fB_succ hA2]; simp [rV, rN, rK, sel, seaB, vacB, wek_and hxk.2.2.1 hxk.2.2.2, *] <;> omega)), (by first | exact sub_int rfl (by omega) | rfl | exact sub_eq rfl (by rw [fB_succ hA2]; simp [rV, rN, rK, sel, seaB, vacB, wek_and hxk.2.2.1 hxk.2.2.2, *] <;> omega)), trivial⟩, rfl⟩
        refine a_nil ?_
        refine tq_n ?_
        refine w_false rfl ?_
        refine awp_skip ?_
        refine tq_n ?_
        refine awp_seq ?_
        refine w_reg (l := r54_19.toList) rfl r54_19_ok ?_
        refine a_op rfl ((by first | exact o_fa tf37_1 rfl rfl | exact o_fap tf37_1 rfl rfl)) ?_
        refine a_op rfl ((by first | exact o_ld tg5 rfl rfl | exact o_ldp tg5 rfl rfl rfl rfl)) ?_
        refine a_if rfl (o_eq rfl rfl) (fun h69 => ?_) (fun h70 => ?_)
        · refine a_nil ?_
          refine tq_n ?_
          refine w_true rfl ?_
          refine awp_seq ?_
          refine w_reg (l := r54_20.toList) rfl r54_20_ok ?_
          refine a_op rfl (o_as rfl) ?_
          refine a_nil ?_
          refine tq_n ?_
          have hwl := wk_lt day
          have hwk7 : (wk day).toNat < 7 := by omega
          refine awp_draw ⟨[[], [0], [0, 1], [0, 1, 2], [0, 1], [0, 1, 4], [0, 1, 2, 3, 4, 5], [0, 1, 2, 3, 4, 5, 6], [0, 1, 2, 3, 4, 5, 6, 7], [0, 1, 2, 3, 4, 5, 6, 7, 8]], [[17], [82], [19, 83], [83, 84], [4, 83], [83, 86], [83, 85, 87], [83, 88], [83, 89], [90]], [[], [], [], [1], [], [], [], [], [], []], [none, none, none, none, none, none, none, none, none, none]⟩ mo r54_21_ok (by decide +kernel) (l := r54_21.toList) rfl ?_
          refine d_ifb rfl rfl rfl (fun _ => o_mv rfl) (fun h71 => ?_) (fun h72 => ?_)
          · refine d_op rfl rfl rfl (fun _ => o_mv rfl) ?_
            refine d_off rfl rfl ?_
            refine d_off rfl rfl ?_
            refine d_off rfl rfl ?_
            refine d_off rfl rfl ?_
            refine d_off rfl rfl ?_
            refine d_off rfl rfl ?_
            refine d_op rfl rfl rfl (fun _ => o_pkt rfl rfl) ?_
            refine d_op rfl rfl rfl (fun _ => o_as rfl) ?_
            refine d_nil ?_
            refine bq_n ?_
            refine tq_n ?_
            exact ⟨(), (by rw [fB_succ hA2, hVk]; simp [rV, sel, vacB, *] <;> omega), ⟨(by first | exact sub_int rfl (by omega) | rfl | exact sub_eq rfl (by rw [fB_succ hA2]; simp [rV, rN, rK, sel, seaB, vacB, wek_and hxk.2.2.1 hxk.2.2.2, *] <;> omega)), (by first | exact sub_int rfl (by omega) | rfl | exact sub_eq rfl (by rw [fB_succ hA2]; simp [rV, rN, rK, sel, seaB, vacB, wek_and hxk.2.2.1 hxk.2.2.2, *] <;> omega)), (by first | exact sub_int rfl (by omega) | rfl | exact sub_eq rfl (by rw [fB_succ hA2]; simp [rV, rN, rK, sel, seaB, vacB, wek_and hxk.2.2.1 hxk.2.2.2, *] <;> omega)), (by first | exact sub_int rfl (by omega) | rfl | exact sub_eq rfl (by rw [fB_succ hA2]; simp [rV, rN, rK, sel, seaB, vacB, wek_and hxk.2.2.1 hxk.2.2.2, *] <;> omega)), (by first | exact sub_int rfl (by omega) | rfl | exact sub_eq rfl (by rw [fB_succ hA2]; simp [rV, rN, rK, sel, seaB, vacB, wek_and hxk.2.2.1 hxk.2.2.2, *] <;> omega)), (by first | exact sub_int rfl (by omega) | rfl | exact sub_eq rfl (by rw [fB_succ hA2]; simp [rV, rN, rK, sel, seaB, vacB, wek_and hxk.2.2.1 hxk.2.2.2, *] <;> omega)), (by first | exact sub_int rfl (by omega) | rfl | exact sub_eq rfl (by rw [fB_succ hA2]; simp [rV, rN, rK, sel, seaB, vacB, wek_and hxk.2.2.1 hxk.2.2.2, *] <;> omega)), (by first | exact sub_int rfl (by omega) | rfl | exact sub_eq rfl (by rw [fB_succ hA2]; simp [rV, rN, rK, sel, seaB, vacB, wek_and hxk.2.2.1 hxk.2.2.2, *] <;> omega)), (by first | exact sub_int rfl (by omega) | rfl | exact sub_eq rfl (by rw [fB_succ hA2]; simp [rV, rN, rK, sel, seaB, vacB, wek_and hxk.2.2.1 hxk.2.2.2, *] <;> omega)), (by first | exact sub_int rfl (by omega) | rfl | exact sub_eq rfl (by rw [fB_succ hA2]; simp [rV, rN, rK, sel, seaB, vacB, wek_and hxk.2.2.1 hxk.2.2.2, *] <;> omega)), (by first | exact sub_int rfl (by omega) | rfl | exact sub_eq rfl (by rw [fB_succ hA2]; simp [rV, rN, rK, sel, seaB, vacB, wek_and hxk.2.2.1 hxk.2.2.2, *] <;> omega)), trivial⟩, rfl⟩
          refine d_op rfl rfl rfl (fun _ => o_mv rfl) ?_
          refine d_op rfl rfl rfl (fun _ => (by first | exact o_fa tf37_4 rfl rfl | exact o_fap tf37_4 rfl rfl)) ?_
          refine d_op rfl rfl rfl (fun _ => (by first | exact o_ld tg5 rfl rfl | exact o_ldp tg5 rfl rfl rfl rfl)) ?_
          refine d_op rfl rfl rfl (fun _ => o_mv rfl) ?_
          refine d_pure rfl rfl rfl rfl cb86 (bit_ok _) ?_
          refine d_op rfl rfl rfl (fun _ => o_andp rfl rfl hxk.2.2.1 hxk.2.2.2 hwk7) ?_
          refine d_op rfl rfl rfl (fun _ => o_ne rfl rfl) ?_
          refine d_op rfl rfl rfl (fun _ => o_pkf rfl rfl) ?_
          refine d_ifb rfl rfl rfl (fun _ => o_as rfl) (fun h73 => ?_) (fun h74 => ?_)
          · refine d_nil ?_
            refine bq_n ?_
            refine tq_n ?_
            exact ⟨(), (by rw [fB_succ hA2, hVk]; simp [rV, sel, vacB, *] <;> omega), ⟨(by first | exact sub_int rfl (by omega) | rfl | exact sub_eq rfl (by rw [fB_succ hA2]; simp [rV, rN, rK, sel, seaB, vacB, wek_and hxk.2.2.1 hxk.2.2.2, *] <;> omega)), (by first | exact sub_int rfl (by omega) | rfl | exact sub_eq rfl (by rw [fB_succ hA2]; simp [rV, rN, rK, sel, seaB, vacB, wek_and hxk.2.2.1 hxk.2.2.2, *] <;> omega)), (by first | exact sub_int rfl (by omega) | rfl | exact sub_eq rfl (by rw [fB_succ hA2]; simp [rV, rN, rK, sel, seaB, vacB, wek_and hxk.2.2.1 hxk.2.2.2, *] <;> omega)), (by first | exact sub_int rfl (by omega) | rfl | exact sub_eq rfl (by rw [fB_succ hA2]; simp [rV, rN, rK, sel, seaB, vacB, wek_and hxk.2.2.1 hxk.2.2.2, *] <;> omega)), (by first | exact sub_int rfl (by omega) | rfl | exact sub_eq rfl (by rw [fB_succ hA2]; simp [rV, rN, rK, sel, seaB, vacB, wek_and hxk.2.2.1 hxk.2.2.2, *] <;> omega)), (by first | exact sub_int rfl (by omega) | rfl | exact sub_eq rfl (by rw [fB_succ hA2]; simp [rV, rN, rK, sel, seaB, vacB, wek_and hxk.2.2.1 hxk.2.2.2, *] <;> omega)), (by first | exact sub_int rfl (by omega) | rfl | exact sub_eq rfl (by rw [fB_succ hA2]; simp [rV, rN, rK, sel, seaB, vacB, wek_and hxk.2.2.1 hxk.2.2.2, *] <;> omega)), (by first | exact sub_int rfl (by omega) | rfl | exact sub_eq rfl (by rw [fB_succ hA2]; simp [rV, rN, rK, sel, seaB, vacB, wek_and hxk.2.2.1 hxk.2.2.2, *] <;> omega)), (by first | exact sub_int rfl (by omega) | rfl | exact sub_eq rfl (by rw [fB_succ hA2]; simp [rV, rN, rK, sel, seaB, vacB, wek_and hxk.2.2.1 hxk.2.2.2, *] <;> omega)), (by first | exact sub_int rfl (by omega) | rfl | exact sub_eq rfl (by rw [fB_succ hA2]; simp [rV, rN, rK, sel, seaB, vacB, wek_and hxk.2.2.1 hxk.2.2.2, *] <;> omega)), (by first | exact sub_int rfl (by omega) | rfl | exact sub_eq rfl (by rw [fB_succ hA2]; simp [rV, rN, rK, sel, seaB, vacB, wek_and hxk.2.2.1 hxk.2.2.2, *] <;> omega)), trivial⟩, rfl⟩
          refine d_nil ?_
          refine bq_n ?_
          refine tq_n ?_
          exact ⟨(), (by rw [fB_succ hA2, hVk]; simp [rV, sel, vacB, *] <;> omega), ⟨(by first | exact sub_int rfl (by omega) | rfl | exact sub_eq rfl (by rw [fB_succ hA2]; simp [rV, rN, rK, sel, seaB, vacB, wek_and hxk.2.2.1 hxk.2.2.2, *] <;> omega)), (by first | exact sub_int rfl (by omega) | rfl | exact sub_eq rfl (by rw [fB_succ hA2]; simp [rV, rN, rK, sel, seaB, vacB, wek_and hxk.2.2.1 hxk.2.2.2, *] <;> omega)), (by first | exact sub_int rfl (by omega) | rfl | exact sub_eq rfl (by rw [fB_succ hA2]; simp [rV, rN, rK, sel, seaB, vacB, wek_and hxk.2.2.1 hxk.2.2.2, *] <;> omega)), (by first | exact sub_int rfl (by omega) | rfl | exact sub_eq rfl (by rw [fB_succ hA2]; simp [rV, rN, rK, sel, seaB, vacB, wek_and hxk.2.2.1 hxk.2.2.2, *] <;> omega)), (by first | exact sub_int rfl (by omega) | rfl | exact sub_eq rfl (by rw [fB_succ hA2]; simp [rV, rN, rK, sel, seaB, vacB, wek_and hxk.2.2.1 hxk.2.2.2, *] <;> omega)), (by first | exact sub_int rfl (by omega) | rfl | exact sub_eq rfl (by rw [fB_succ hA2]; simp [rV, rN, rK, sel, seaB, vacB, wek_and hxk.2.2.1 hxk.2.2.2, *] <;> omega)), (by first | exact sub_int rfl (by omega) | rfl | exact sub_eq rfl (by rw [fB_succ hA2]; simp [rV, rN, rK, sel, seaB, vacB, wek_and hxk.2.2.1 hxk.2.2.2, *] <;> omega)), (by first | exact sub_int rfl (by omega) | rfl | exact sub_eq rfl (by rw [fB_succ hA2]; simp [rV, rN, rK, sel, seaB, vacB, wek_and hxk.2.2.1 hxk.2.2.2, *] <;> omega)), (by first | exact sub_int rfl (by omega) | rfl | exact sub_eq rfl (by rw [fB_succ hA2]; simp [rV, rN, rK, sel, seaB, vacB, wek_and hxk.2.2.1 hxk.2.2.2, *] <;> omega)), (by first | exact sub_int rfl (by omega) | rfl | exact sub_eq rfl (by rw [fB_succ hA2]; simp [rV, rN, rK, sel, seaB, vacB, wek_and hxk.2.2.1 hxk.2.2.2, *] <;> omega)), (by first | exact sub_int rfl (by omega) | rfl | exact sub_eq rfl (by rw [fB_succ hA2]; simp [rV, rN, rK, sel, seaB, vacB, wek_and hxk.2.2.1 hxk.2.2.2, *] <;> omega)), trivial⟩, rfl⟩
        refine a_nil ?_
        refine tq_n ?_
        refine w_false rfl ?_
        refine awp_skip ?_
        refine bq_n ?_
        refine tq_n ?_
        exact ⟨(), (by rw [fB_succ hA2, hVk]; simp [rV, sel, vacB, *] <;> omega), ⟨(by first | exact sub_int rfl (by omega) | rfl | exact sub_eq rfl (by rw [fB_succ hA2]; simp [rV, rN, rK, sel, seaB, vacB, wek_and hxk.2.2.1 hxk.2.2.2, *] <;> omega)), (by first | exact sub_int rfl (by omega) | rfl | exact sub_eq rfl (by rw [fB_succ hA2]; simp [rV, rN, rK, sel, seaB, vacB, wek_and hxk.2.2.1 hxk.2.2.2, *] <;> omega)), (by first | exact sub_int rfl (by omega) | rfl | exact sub_eq rfl (by rw [fB_succ hA2]; simp [rV, rN, rK, sel, seaB, vacB, wek_and hxk.2.2.1 hxk.2.2.2, *] <;> omega)), (by first | exact sub_int rfl (by omega) | rfl | exact sub_eq rfl (by rw [fB_succ hA2]; simp [rV, rN, rK, sel, seaB, vacB, wek_and hxk.2.2.1 hxk.2.2.2, *] <;> omega)), (by first | exact sub_int rfl (by omega) | rfl | exact sub_eq rfl (by rw [fB_succ hA2]; simp [rV, rN, rK, sel, seaB, vacB, wek_and hxk.2.2.1 hxk.2.2.2, *] <;> omega)), (by first | exact sub_int rfl (by omega) | rfl | exact sub_eq rfl (by rw [fB_succ hA2]; simp [rV, rN, rK, sel, seaB, vacB, wek_and hxk.2.2.1 hxk.2.2.2, *] <;> omega)), (by first | exact sub_int rfl (by omega) | rfl | exact sub_eq rfl (by rw [fB_succ hA2]; simp [rV, rN, rK, sel, seaB, vacB, wek_and hxk.2.2.1 hxk.2.2.2, *] <;> omega)), (by first | exact sub_int rfl (by omega) | rfl | exact sub_eq rfl (by rw [fB_succ hA2]; simp [rV, rN, rK, sel, seaB, vacB, wek_and hxk.2.2.1 hxk.2.2.2, *] <;> omega)), (by first | exact sub_int rfl (by omega) | rfl | exact sub_eq rfl (by rw [fB_succ hA2]; simp [rV, rN, rK, sel, seaB, vacB, wek_and hxk.2.2.1 hxk.2.2.2, *] <;> omega)), (by first | exact sub_int rfl (by omega) | rfl | exact sub_eq rfl (by rw [fB_succ hA2]; simp [rV, rN, rK, sel, seaB, vacB, wek_and hxk.2.2.1 hxk.2.2.2, *] <;> omega)), (by first | exact sub_int rfl (by omega) | rfl | exact sub_eq rfl (by rw [fB_succ hA2]; simp [rV, rN, rK, sel, seaB, vacB, wek_and hxk.2.2.1 hxk.2.2.2, *] <;> omega)), trivial⟩, rfl⟩
      refine a_op rfl (o_mv rfl) ?_
      refine a_off rfl ?_
      refine a_off rfl ?_
      refine a_off rfl ?_
      refine a_off rfl ?_
      refine a_op rfl (o_pkf rfl rfl) ?_
      refine a_op rfl (o_mv rfl) ?_
      refine a_off rfl ?_
      refine a_off rfl ?_
      refine a_off rfl ?_
      refine a_off rfl ?_
      refine a_op rfl (o_pkf rfl rfl) ?_
      refine a_nil ?_
      refine tq_n ?_
      refine w_false rfl ?_
      refine awp_skip ?_
      refine tq_n ?_
      refine awp_seq ?_
      refine awp_seq ?_
      refine w_reg (l := r54_15.toList) rfl r54_15_ok ?_
      refine a_op rfl ((by first | exact o_fa tf37_1 rfl rfl | exact o_fap tf37_1 rfl rfl)) ?_
      refine a_op rfl ((by first | exact o_ld tg5 rfl rfl | exact o_ldp tg5 rfl rfl rfl rfl)) ?_
      refine a_if rfl (o_eq rfl rfl) (fun h75 => ?_) (fun h76 => ?_)
      · refine a_nil ?_
        refine tq_n ?_
        refine w_true rfl ?_
        refine awp_seq ?_
        refine w_reg (l := r54_16.toList) rfl r54_16_ok ?_
        refine a_op rfl (o_as rfl) ?_
        refine a_nil ?_
        refine tq_n ?_
        refine awp_seq ?_
        refine w_reg (l := r54_17.toList) rfl r54_17_ok ?_
        refine a_op rfl (o_mv rfl) ?_
        refine a_op rfl ((by first | exact o_fa tf37_2 rfl rfl | exact o_fap tf37_2 rfl rfl)) ?_
        refine a_op rfl ((by first | exact o_ld tg3 rfl rfl | exact o_ldp tg3 rfl rfl rfl rfl)) ?_
        refine a_op rfl ((by first | exact o_fa tf37_3 rfl rfl | exact o_fap tf37_3 rfl rfl)) ?_
        refine a_op rfl ((by first | exact o_ld tg3 rfl rfl | exact o_ldp tg3 rfl rfl rfl rfl)) ?_
        refine a_pure rfl rfl rfl cb46 (ryearly_ok _ _ _ hxk.1 hxk.2.1) ?_
        refine a_op rfl (o_mv rfl) ?_
        refine a_op rfl (o_ex rfl rfl) ?_
        refine a_op rfl (o_ex rfl rfl) ?_
        refine a_op rfl (o_as rfl) ?_
        refine a_op rfl (o_as rfl) ?_
        refine a_nil ?_
        refine tq_n ?_
        refine w_reg (l := r54_18.toList) rfl r54_18_ok ?_
        refine a_ifb rfl (o_mv rfl) (fun h77 => ?_) (fun h78 => ?_)
        · refine a_op rfl (o_mv rfl) ?_
          refine a_off rfl ?_
          refine a_op rfl (o_pkt rfl rfl) ?_
          refine a_op rfl (o_as rfl) ?_
          refine a_nil ?_
          refine tq_n ?_
          refine awp_seq ?_
          refine w_reg (l := r54_19.toList) rfl r54_19_ok ?_
          refine a_op rfl ((by first | exact o_fa tf37_1 rfl rfl | exact o_fap tf37_1 rfl rfl)) ?_
          refine a_op rfl ((by first | exact o_ld tg5 rfl rfl | exact o_ldp tg5 rfl rfl rfl rfl)) ?_
          refine a_if rfl (o_eq rfl rfl) (fun h79 => ?_) (fun h80 => ?_)
          · refine a_nil ?_
            refine tq_n ?_
            refine w_true rfl ?_
            refine awp_seq ?_
            refine w_reg (l := r54_20.toList) rfl r54_20_ok ?_
            refine a_op rfl (o_as rfl) ?_
            refine a_nil ?_
            refine tq_n ?_
            have hwl := wk_lt day
            have hwk7 : (wk day).toNat < 7 := by omega
            refine awp_draw ⟨[[], [0], [0, 1], [0, 1, 2], [0, 1], [0, 1, 4], [0, 1, 2, 3, 4, 5], [0, 1, 2, 3, 4, 5, 6], [0, 1, 2, 3, 4, 5, 6, 7], [0, 1, 2, 3, 4, 5, 6, 7, 8]], [[17], [82], [19, 83], [83, 84], [4, 83], [83, 86], [83, 85, 87], [83, 88], [83, 89], [90]], [[], [], [], [1], [], [], [], [], [], []], [none, none, none, none, none, none, none, none, none, none]⟩ mo r54_21_ok (by decide +kernel) (l := r54_21.toList) rfl ?_
            refine d_ifb rfl rfl rfl (fun _ => o_mv rfl) (fun h81 => ?_) (fun h82 => ?_)
            · refine d_op rfl rfl rfl (fun _ => o_mv rfl) ?_
              refine d_off rfl rfl ?_
              refine d_off rfl rfl ?_
              refine d_off rfl rfl ?_
              refine d_off rfl rfl ?_
              refine d_off rfl rfl ?_
              refine d_off rfl rfl ?_
              refine d_op rfl rfl rfl (fun _ => o_pkt rfl rfl) ?_
              refine d_op rfl rfl rfl (fun _ => o_as rfl) ?_
              refine d_nil ?_
              refine bq_n ?_
              refine tq_n ?_
              exact ⟨(), (by rw [fB_succ hA2, hVk]; simp [rV, sel, vacB, *] <;> omega), ⟨(by first | exact sub_int rfl (by omega) | rfl | exact sub_eq rfl (by rw [fB_succ hA2]; simp [rV, rN, rK, sel, seaB, vacB, wek_and hxk.2.2.1 hxk.2.2.2, *] <;> omega)), (by first | exact sub_int rfl (by omega) | rfl | exact sub_eq rfl (by rw [fB_succ hA2]; simp [rV, rN, rK, sel, seaB, vacB, wek_and hxk.2.2.1 hxk.2.2.2, *] <;> omega)), (by first | exact sub_int rfl (by omega) | rfl | exact sub_eq rfl (by rw [fB_succ hA2]; simp [rV, rN, rK, sel, seaB, vacB, wek_and hxk.2.2.1 hxk.2.2.2, *] <;> omega)), (by first | exact sub_int rfl (by omega) | rfl | exact sub_eq rfl (by rw [fB_succ hA2]; simp [rV, rN, rK, sel, seaB, vacB, wek_and hxk.2.2.1 hxk.2.2.2, *] <;> omega)), (by first | exact sub_int rfl (by omega) | rfl | exact sub_eq rfl (by rw [fB_succ hA2]; simp [rV, rN, rK, sel, seaB, vacB, wek_and hxk.2.2.1 hxk.2.2.2, *] <;> omega)), (by first | exact sub_int rfl (by omega) | rfl | exact sub_eq rfl (by rw [fB_succ hA2]; simp [rV, rN, rK, sel, seaB, vacB, wek_and hxk.2.2.1 hxk.2.2.2, *] <;> omega)), (by first | exact sub_int rfl (by omega) | rfl | exact sub_eq rfl (by rw [fB_succ hA2]; simp [rV, rN, rK, sel, seaB, vacB, wek_and hxk.2.2.1 hxk.2.2.2, *] <;> omega)), (by first | exact sub_int rfl (by omega) | rfl | exact sub_eq rfl (by rw [fB_succ hA2]; simp [rV, rN, rK, sel, seaB, vacB, wek_and hxk.2.2.1 hxk.2.2.2, *] <;> omega)), (by first | exact sub_int rfl (by omega) | rfl | exact sub_eq rfl (by rw [fB_succ hA2]; simp [rV, rN, rK, sel, seaB, vacB, wek_and hxk.2.2.1 hxk.2.2.2, *] <;> omega)), (by first | exact sub_int rfl (by omega) | rfl | exact sub_eq rfl (by rw [fB_succ hA2]; simp [rV, rN, rK, sel, seaB, vacB, wek_and hxk.2.2.1 hxk.2.2.2, *] <;> omega)), (by first | exact sub_int rfl (by omega) | rfl | exact sub_eq rfl (by rw [fB_succ hA2]; simp [rV, rN, rK, sel, seaB, vacB, wek_and hxk.2.2.1 hxk.2.2.2, *] <;> omega)), trivial⟩, rfl⟩
            refine d_op rfl rfl rfl (fun _ => o_mv rfl) ?_
            refine d_op rfl rfl rfl (fun _ => (by first | exact o_fa tf37_4 rfl rfl | exact o_fap tf37_4 rfl rfl)) ?_
            refine d_op rfl rfl rfl (fun _ => (by first | exact o_ld tg5 rfl rfl | exact o_ldp tg5 rfl rfl rfl rfl)) ?_
            refine d_op rfl rfl rfl (fun _ => o_mv rfl) ?_
            refine d_pure rfl rfl rfl rfl cb86 (bit_ok _) ?_
            refine d_op rfl rfl rfl (fun _ => o_andp rfl rfl hxk.2.2.1 hxk.2.2.2 hwk7) ?_
            refine d_op rfl rfl rfl (fun _ => o_ne rfl rfl) ?_
            refine d_op rfl rfl rfl (fun _ => o_pkf rfl rfl) ?_
            refine d_ifb rfl rfl rfl (fun _ => o_as rfl) (fun h83 => ?_) (fun h84 => ?_)
            · refine d_nil ?_
              refine bq_n ?_
              refine tq_n ?_
              exact ⟨(), (by rw [fB_succ hA2, hVk]; simp [rV, sel, vacB, *] <;> omega), ⟨(by first | exact sub_int rfl (by omega) | rfl | exact sub_eq rfl (by rw [fB_succ hA2]; simp [rV, rN, rK, sel, seaB, vacB, wek_and hxk.2.2.1 hxk.2.2.2, *] <;> omega)), (by first | exact sub_int rfl (by omega) | rfl | exact sub_eq rfl (by rw [fB_succ hA2]; simp [rV, rN, rK, sel, seaB, vacB, wek_and hxk.2.2.1 hxk.2.2.2, *] <;> omega)), (by first | exact sub_int rfl (by omega) | rfl | exact sub_eq rfl (by rw [fB_succ hA2]; simp [rV, rN, rK, sel, seaB, vacB, wek_and hxk.2.2.1 hxk.2.2.2, *] <;> omega)), (by first | exact sub_int rfl (by omega) | rfl | exact sub_eq rfl (by rw [fB_succ hA2]; simp [rV, rN, rK, sel, seaB, vacB, wek_and hxk.2.2.1 hxk.2.2.2, *] <;> omega)), (by first | exact sub_int rfl (by omega) | rfl | exact sub_eq rfl (by rw [fB_succ hA2]; simp [rV, rN, rK, sel, seaB, vacB, wek_and hxk.2.2.1 hxk.2.2.2, *] <;> omega)), (by first | exact sub_int rfl (by omega) | rfl | exact sub_eq rfl (by rw [fB_succ hA2]; simp [rV, rN, rK, sel, seaB, vacB, wek_and hxk.2.2.1 hxk.2.2.2, *] <;> omega)), (by first | exact sub_int rfl (by omega) | rfl | exact sub_eq rfl (by rw [fB_succ hA2]; simp [rV, rN, rK, sel, seaB, vacB, wek_and hxk.2.2.1 hxk.2.2.2, *] <;> omega)), (by first | exact sub_int rfl (by omega) | rfl | exact sub_eq rfl (by rw [fB_succ hA2]; simp [rV, rN, rK, sel, seaB, vacB, wek_and hxk.2.2.1 hxk.2.2.2, *] <;> omega)), (by first | exact sub_int rfl (by omega) | rfl | exact sub_eq rfl (by rw [fB_succ hA2]; simp [rV, rN, rK, sel, seaB, vacB, wek_and hxk.2.2.1 hxk.2.2.2, *] <;> omega)), (by first | exact sub_int rfl (by omega) | rfl | exact sub_eq rfl (by rw [fB_succ hA2]; simp [rV, rN, rK, sel, seaB, vacB, wek_and hxk.2.2.1 hxk.2.2.2, *] <;> omega)), (by first | exact sub_int rfl (by omega) | rfl | exact sub_eq rfl (by rw [fB_succ hA2]; simp [rV, rN, rK, sel, seaB, vacB, wek_and hxk.2.2.1 hxk.2.2.2, *] <;> omega)), trivial⟩, rfl⟩
            refine d_nil ?_
            refine bq_n ?_
            refine tq_n ?_
            exact ⟨(), (by rw [fB_succ hA2, hVk]; simp [rV, sel, vacB, *] <;> omega), ⟨(by first | exact sub_int rfl (by omega) | rfl | exact sub_eq rfl (by rw [fB_succ hA2]; simp [rV, rN, rK, sel, seaB, vacB, wek_and hxk.2.2.1 hxk.2.2.2, *] <;> omega)), (by first | exact sub_int rfl (by omega) | rfl | exact sub_eq rfl (by rw [fB_succ hA2]; simp [rV, rN, rK, sel, seaB, vacB, wek_and hxk.2.2.1 hxk.2.2.2, *] <;> omega)), (by first | exact sub_int rfl (by omega) | rfl | exact sub_eq rfl (by rw [fB_succ hA2]; simp [rV, rN, rK, sel, seaB, vacB, wek_and hxk.2.2.1 hxk.2.2.2, *] <;> omega)), (by first | exact sub_int rfl (by omega) | rfl | exact sub_eq rfl (by rw [fB_succ hA2]; simp [rV, rN, rK, sel, seaB, vacB, wek_and hxk.2.2.1 hxk.2.2.2, *] <;> omega)), (by first | exact sub_int rfl (by omega) | rfl | exact sub_eq rfl (by rw [fB_succ hA2]; simp [rV, rN, rK, sel, seaB, vacB, wek_and hxk.2.2.1 hxk.2.2.2, *] <;> omega)), (by first | exact sub_int rfl (by omega) | rfl | exact sub_eq rfl (by rw [fB_succ hA2]; simp [rV, rN, rK, sel, seaB, vacB, wek_and hxk.2.2.1 hxk.2.2.2, *] <;> omega)), (by first | exact sub_int rfl (by omega) | rfl | exact sub_eq rfl (by rw [fB_succ hA2]; simp [rV, rN, rK, sel, seaB, vacB, wek_and hxk.2.2.1 hxk.2.2.2, *] <;> omega)), (by first | exact sub_int rfl (by omega) | rfl | exact sub_eq rfl (by rw [fB_succ hA2]; simp [rV, rN, rK, sel, seaB, vacB, wek_and hxk.2.2.1 hxk.2.2.2, *] <;> omega)), (by first | exact sub_int rfl (by omega) | rfl | exact sub_eq rfl (by rw [fB_succ hA2]; simp [rV, rN, rK, sel, seaB, vacB, wek_and hxk.2.2.1 hxk.2.2.2, *] <;> omega)), (by first | exact sub_int rfl (by omega) | rfl | exact sub_eq rfl (by rw [fB_succ hA2]; simp [rV, rN, rK, sel, seaB, vacB, wek_and hxk.2.2.1 hxk.2.2.2, *] <;> omega)), (by first | exact sub_int rfl (by omega) | rfl | exact sub_eq rfl (by rw [fB_succ hA2]; simp [rV, rN, rK, sel, seaB, vacB, wek_and hxk.2.2.1 hxk.2.2.2, *] <;> omega)), trivial⟩, rfl⟩
          refine a_nil ?_
          refine tq_n ?_
          refine w_false rfl ?_
          refine awp_skip ?_
          refine bq_n ?_
          refine tq_n ?_
          exact ⟨(), (by rw [fB_succ hA2, hVk]; simp [rV, sel, vacB, *] <;> omega), ⟨(by first | exact sub_int rfl (by omega) | rfl | exact sub_eq rfl (by rw [fB_succ hA2]; simp [rV, rN, rK, sel, seaB, vacB, wek_and hxk.2.2.1 hxk.2.2.2, *] <;> omega)), (by first | exact sub_int rfl (by omega) | rfl | exact sub_eq rfl (by rw [fB_succ hA2]; simp [rV, rN, rK, sel, seaB, vacB, wek_and hxk.2.2.1 hxk.2.2.2, *] <;> omega)), (by first | exact sub_int rfl (by omega) | rfl | exact sub_eq rfl (by rw [fB_succ hA2]; simp [rV, rN, rK, sel, seaB, vacB, wek_and hxk.2.2.1 hxk.2.2.2, *] <;> omega)), (by first | exact sub_int rfl (by omega) | rfl | exact sub_eq rfl (by rw [fB_succ hA2]; simp [rV, rN, rK, sel, seaB, vacB, wek_and hxk.2.2.1 hxk.2.2.2, *] <;> omega)), (by first | exact sub_int rfl (by omega) | rfl | exact sub_eq rfl (by rw [fB_succ hA2]; simp [rV, rN, rK, sel, seaB, vacB, wek_and hxk.2.2.1 hxk.2.2.2, *] <;> omega)), (by first | exact sub_int rfl (by omega) | rfl | exact sub_eq rfl (by rw [fB_succ hA2]; simp [rV, rN, rK, sel, seaB, vacB, wek_and hxk.2.2.1 hxk.2.2.2, *] <;> omega)), (by first | exact sub_int rfl (by omega) | rfl | exact sub_eq rfl (by rw [fB_succ hA2]; simp [rV, rN, rK, sel, seaB, vacB, wek_and hxk.2.2.1 hxk.2.2.2, *] <;> omega)), (by first | exact sub_int rfl (by omega) | rfl | exact sub_eq rfl (by rw [fB_succ hA2]; simp [rV, rN, rK, sel, seaB, vacB, wek_and hxk.2.2.1 hxk.2.2.2, *] <;> omega)), (by first | exact sub_int rfl (by omega) | rfl | exact sub_eq rfl (by rw [fB_succ hA2]; simp [rV, rN, rK, sel, seaB, vacB, wek_and hxk.2.2.1 hxk.2.2.2, *] <;> omega)), (by first | exact sub_int rfl (by omega) | rfl | exact sub_eq rfl (by rw [fB_succ hA2]; simp [rV, rN, rK, sel, seaB, vacB, wek_and hxk.2.2.1 hxk.2.2.2, *] <;> omega)), (by first | exact sub_int rfl (by omega) | rfl | exact sub_eq rfl (by rw [fB_succ hA2]; simp [rV, rN, rK, sel, seaB, vacB, wek_and hxk.2.2.1 hxk.2.2.2, *] <;> omega)), trivial⟩, rfl⟩
        refine a_op rfl (o_mv rfl) ?_
        refine a_op rfl (o_mv rfl) ?_
        refine a_op rfl (o_pkf rfl rfl) ?_
        refine a_ifb rfl (o_as rfl) (fun h85 => ?_) (fun h86 => ?_)
        · refine a_nil ?_
          refine tq_n ?_
          refine awp_seq ?_
          refine w_reg (l := r54_19.toList) rfl r54_19_ok ?_
          refine a_op rfl ((by first | exact o_fa tf37_1 rfl rfl | exact o_fap tf37_1 rfl rfl)) ?_
          refine a_op rfl ((by first | exact o_ld tg5 rfl rfl | exact o_ldp tg5 rfl rfl rfl rfl)) ?_
          refine a_if rfl (o_eq rfl rfl) (fun h87 => ?_) (fun h88 => ?_)
          · refine a_nil ?_
            refine tq_n ?_
            refine w_true rfl ?_
            refine awp_seq ?_
            refine w_reg (l := r54_20.toList) rfl r54_20_ok ?_
            refine a_op rfl (o_as rfl) ?_
            refine a_nil ?_
            refine tq_n ?_
            have hwl := wk_lt day
            have hwk7 : (wk day).toNat < 7 := by omega
            refine awp_draw ⟨[[], [0], [0, 1], [0, 1, 2], [0, 1], [0, 1, 4], [0, 1, 2, 3, 4, 5], [0, 1, 2, 3, 4, 5, 6], [0, 1, 2, 3, 4, 5, 6, 7], [0, 1, 2, 3, 4, 5, 6, 7, 8]], [[17], [82], [19, 83], [83, 84], [4, 83], [83, 86], [83, 85, 87], [83, 88], [83, 89], [90]], [[], [], [], [1], [], [], [], [], [], []], [none, none, none, none, none, none, none, none, none, none]⟩ mo r54_21_ok (by decide +kernel) (l := r54_21.toList) rfl ?_
            refine d_ifb rfl rfl rfl (fun _ => o_mv rfl) (fun h89 => ?_) (fun h90 => ?_)
            · refine d_op rfl rfl rfl (fun _ => o_mv rfl) ?_
              refine d_off rfl rfl ?_
              refine d_off rfl rfl ?_
              refine d_off rfl rfl ?_
              refine d_off rfl rfl ?_
              refine d_off rfl rfl ?_
              refine d_off rfl rfl ?_
              refine d_op rfl rfl rfl (fun _ => o_pkt rfl rfl) ?_
              refine d_op rfl rfl rfl (fun _ => o_as rfl) ?_
              refine d_nil ?_
              refine bq_n ?_
              refine tq_n ?_
              exact ⟨(), (by rw [fB_succ hA2, hVk]; simp [rV, sel, vacB, *] <;> omega), ⟨(by first | exact sub_int rfl (by omega) | rfl | exact sub_eq rfl (by rw [fB_succ hA2]; simp [rV, rN, rK, sel, seaB, vacB, wek_and hxk.2.2.1 hxk.2.2.2, *] <;> omega)), (by first | exact sub_int rfl (by omega) | rfl | exact sub_eq rfl (by rw [fB_succ hA2]; simp [rV, rN, rK, sel, seaB, vacB, wek_and hxk.2.2.1 hxk.2.2.2, *] <;> omega)), (by first | exact sub_int rfl (by omega) | rfl | exact sub_eq rfl (by rw [fB_succ hA2]; simp [rV, rN, rK, sel, seaB, vacB, wek_and hxk.2.2.1 hxk.2.2.2, *] <;> omega)), (by first | exact sub_int rfl (by omega) | rfl | exact sub_eq rfl (by rw [fB_succ hA2]; simp [rV, rN, rK, sel, seaB, vacB, wek_and hxk.2.2.1 hxk.2.2.2, *] <;> omega)), (by first | exact sub_int rfl (by omega) | rfl | exact sub_eq rfl (by rw [fB_succ hA2]; simp [rV, rN, rK, sel, seaB, vacB, wek_and hxk.2.2.1 hxk.2.2.2, *] <;> omega)), (by first | exact sub_int rfl (by omega) | rfl | exact sub_eq rfl (by rw [fB_succ hA2]; simp [rV, rN, rK, sel, seaB, vacB, wek_and hxk.2.2.1 hxk.2.2.2, *] <;> omega)), (by first | exact sub_int rfl (by omega) | rfl | exact sub_eq rfl (by rw [fB_succ hA2]; simp [rV, rN, rK, sel, seaB, vacB, wek_and hxk.2.2.1 hxk.2.2.2, *] <;> omega)), (by first | exact sub_int rfl (by omega) | rfl | exact sub_eq rfl (by rw [fB_succ hA2]; simp [rV, rN, rK, sel, seaB, vacB, wek_and hxk.2.2.1 hxk.2.2.2, *] <;> omega)), (by first | exact sub_int rfl (by omega) | rfl | exact sub_eq rfl (by rw [fB_succ hA2]; simp [rV, rN, rK, sel, seaB, vacB, wek_and hxk.2.2.1 hxk.2.2.2, *] <;> omega)), (by first | exact sub_int rfl (by omega) | rfl | exact sub_eq rfl (by rw [fB_succ hA2]; simp [rV, rN, rK, sel, seaB, vacB, wek_and hxk.2.2.1 hxk.2.2.2, *] <;> omega)), (by first | exact sub_int rfl (by omega) | rfl | exact sub_eq rfl (by rw [fB_succ hA2]; simp [rV, rN, rK, sel, seaB, vacB, wek_and hxk.2.2.1 hxk.2.2.2, *] <;> omega)), trivial⟩, rfl⟩
            refine d_op rfl rfl rfl (fun _ => o_mv rfl) ?_
            refine d_op rfl rfl rfl (fun _ => (by first | exact o_fa tf37_4 rfl rfl | exact o_fap tf37_4 rfl rfl)) ?_
            refine d_op rfl rfl rfl (fun _ => (by first | exact o_ld tg5 rfl rfl | exact o_ldp tg5 rfl rfl rfl rfl)) ?_
            refine d_op rfl rfl rfl (fun _ => o_mv rfl) ?_
            refine d_pure rfl rfl rfl rfl cb86 (bit_ok _) ?_
            refine d_op rfl rfl rfl (fun _ => o_andp rfl rfl hxk.2.2.1 hxk.2.2.2 hwk7) ?_
            refine d_op rfl rfl rfl (fun _ => o_ne rfl rfl) ?_
            refine d_op rfl rfl rfl (fun _ => o_pkf rfl rfl) ?_
            refine d_ifb rfl rfl rfl (fun _ => o_as rfl) (fun h91 => ?_) (fun h92 => ?_)
            · refine d_nil ?_
              refine bq_n ?_
              refine tq_n ?_
              exact ⟨(), (by rw [fB_succ hA2, hVk]; simp [rV, sel, vacB, *] <;> omega), ⟨(by first | exact sub_int rfl (by omega) | rfl | exact sub_eq rfl (by rw [fB_succ hA2]; simp [rV, rN, rK, sel, seaB, vacB, wek_and hxk.2.2.1 hxk.2.2.2, *] <;> omega)), (by first | exact sub_int rfl (by omega) | rfl | exact sub_eq rfl (by rw [fB_succ hA2]; simp [rV, rN, rK, sel, seaB, vacB, wek_and hxk.2.2.1 hxk.2.2.2, *] <;> omega)), (by first | exact sub_int rfl (by omega) | rfl | exact sub_eq rfl (by rw [fB_succ hA2]; simp [rV, rN, rK, sel, seaB, vacB, wek_and hxk.2.2.1 hxk.2.2.2, *] <;> omega)), (by first | exact sub_int rfl (by omega) | rfl | exact sub_eq rfl (by rw [fB_succ hA2]; simp [rV, rN, rK, sel, seaB, vacB, wek_and hxk.2.2.1 hxk.2.2.2, *] <;> omega)), (by first | exact sub_int rfl (by omega) | rfl | exact sub_eq rfl (by rw [fB_succ hA2]; simp [rV, rN, rK, sel, seaB, vacB, wek_and hxk.2.2.1 hxk.2.2.2, *] <;> omega)), (by first | exact sub_int rfl (by omega) | rfl | exact sub_eq rfl (by rw [fB_succ hA2]; simp [rV, rN, rK, sel, seaB, vacB, wek_and hxk.2.2.1 hxk.2.2.2, *] <;> omega)), (by first | exact sub_int rfl (by omega) | rfl | exact sub_eq rfl (by rw [fB_succ hA2]; simp [rV, rN, rK, sel, seaB, vacB, wek_and hxk.2.2.1 hxk.2.2.2, *] <;> omega)), (by first | exact sub_int rfl (by omega) | rfl | exact sub_eq rfl (by rw [fB_succ hA2]; simp [rV, rN, rK, sel, seaB, vacB, wek_and hxk.2.2.1 hxk.2.2.2, *] <;> omega)), (by first | exact sub_int rfl (by omega) | rfl | exact sub_eq rfl (by rw [fB_succ hA2]; simp [rV, rN, rK, sel, seaB, vacB, wek_and hxk.2.2.1 hxk.2.2.2, *] <;> omega)), (by first | exact sub_int rfl (by omega) | rfl | exact sub_eq rfl (by rw [fB_succ hA2]; simp [rV, rN, rK, sel, seaB, vacB, wek_and hxk.2.2.1 hxk.2.2.2, *] <;> omega)), (by first | exact sub_int rfl (by omega) | rfl | exact sub_eq rfl (by rw [fB_succ hA2]; simp [rV, rN, rK, sel, seaB, vacB, wek_and hxk.2.2.1 hxk.2.2.2, *] <;> omega)), trivial⟩, rfl⟩
            refine d_nil ?_
            refine bq_n ?_
            refine tq_n ?_
            exact ⟨(), (by rw [fB_succ hA2, hVk]; simp [rV, sel, vacB, *] <;> omega), ⟨(by first | exact sub_int rfl (by omega) | rfl | exact sub_eq rfl (by rw [fB_succ hA2]; simp [rV, rN, rK, sel, seaB, vacB, wek_and hxk.2.2.1 hxk.2.2.2, *] <;> omega)), (by first | exact sub_int rfl (by omega) | rfl | exact sub_eq rfl (by rw [fB_succ hA2]; simp [rV, rN, rK, sel, seaB, vacB, wek_and hxk.2.2.1 hxk.2.2.2, *] <;> omega)), (by first | exact sub_int rfl (by omega) | rfl | exact sub_eq rfl (by rw [fB_succ hA2]; simp [rV, rN, rK, sel, seaB, vacB, wek_and hxk.2.2.1 hxk.2.2.2, *] <;> omega)), (by first | exact sub_int rfl (by omega) | rfl | exact sub_eq rfl (by rw [fB_succ hA2]; simp [rV, rN, rK, sel, seaB, vacB, wek_and hxk.2.2.1 hxk.2.2.2, *] <;> omega)), (by first | exact sub_int rfl (by omega) | rfl | exact sub_eq rfl (by rw [fB_succ hA2]; simp [rV, rN, rK, sel, seaB, vacB, wek_and hxk.2.2.1 hxk.2.2.2, *] <;> omega)), (by first | exact sub_int rfl (by omega) | rfl | exact sub_eq rfl (by rw [fB_succ hA2]; simp [rV, rN, rK, sel, seaB, vacB, wek_and hxk.2.2.1 hxk.2.2.2, *] <;> omega)), (by first | exact sub_int rfl (by omega) | rfl | exact sub_eq rfl (by rw [fB_succ hA2]; simp [rV, rN, rK, sel, seaB, vacB, wek_and hxk.2.2.1 hxk.2.2.2, *] <;> omega)), (by first | exact sub_int rfl (by omega) | rfl | exact sub_eq rfl (by rw [fB_succ hA2]; simp [rV, rN, rK, sel, seaB, vacB, wek_and hxk.2.2.1 hxk.2.2.2, *] <;> omega)), (by first | exact sub_int rfl (by omega) | rfl | exact sub_eq rfl (by rw [fB_succ hA2]; simp [rV, rN, rK, sel, seaB, vacB, wek_and hxk.2.2.1 hxk.2.2.2, *] <;> omega)), (by first | exact sub_int rfl (by omega) | rfl | exact sub_eq rfl (by rw [fB_succ hA2]; simp [rV, rN, rK, sel, seaB, vacB, wek_and hxk.2.2.1 hxk.2.2.2, *] <;> omega)), (by first | exact sub_int rfl (by omega) | rfl | exact sub_eq rfl (by rw [fB_succ hA2]; simp [rV, rN, rK, sel, seaB, vacB, wek_and hxk.2.2.1 hxk.2.2.2, *] <;> omega)), trivial⟩, rfl⟩
          refine a_nil ?_
          refine tq_n ?_
          refine w_false rfl ?_
          refine awp_skip ?_
          refine bq_n ?_
          refine tq_n ?_
          exact ⟨(), (by rw [fB_succ hA2, hVk]; simp [rV, sel, vacB, *] <;> omega), ⟨(by first | exact sub_int rfl (by omega) | rfl | exact sub_eq rfl (by rw [fB_succ hA2]; simp [rV, rN, rK, sel, seaB, vacB, wek_and hxk.2.2.1 hxk.2.2.2, *] <;> omega)), (by first | exact sub_int rfl (by omega) | rfl | exact sub_eq rfl (by rw [fB_succ hA2]; simp [rV, rN, rK, sel, seaB, vacB, wek_and hxk.2.2.1 hxk.2.2.2, *] <;> omega)), (by first | exact sub_int rfl (by omega) | rfl | exact sub_eq rfl (by rw [fB_succ hA2]; simp [rV, rN, rK, sel, seaB, vacB, wek_and hxk.2.2.1 hxk.2.2.2, *] <;> omega)), (by first | exact sub_int rfl (by omega) | rfl | exact sub_eq rfl (by rw [fB_succ hA2]; simp [rV, rN, rK, sel, seaB, vacB, wek_and hxk.2.2.1 hxk.2.2.2, *] <;> omega)), (by first | exact sub_int rfl (by omega) | rfl | exact sub_eq rfl (by rw [fB_succ hA2]; simp [rV, rN, rK, sel, seaB, vacB, wek_and hxk.2.2.1 hxk.2.2.2, *] <;> omega)), (by first | exact sub_int rfl (by omega) | rfl | exact sub_eq rfl (by rw [fB_succ hA2]; simp [rV, rN, rK, sel, seaB, vacB, wek_and hxk.2.2.1 hxk.2.2.2, *] <;> omega)), (by first | exact sub_int rfl (by omega) | rfl | exact sub_eq rfl (by rw [fB_succ hA2]; simp [rV, rN, rK, sel, seaB, vacB, wek_and hxk.2.2.1 hxk.2.2.2, *] <;> omega)), (by first | exact sub_int rfl (by omega) | rfl | exact sub_eq rfl (by rw [fB_succ hA2]; simp [rV, rN, rK, sel, seaB, vacB, wek_and hxk.2.2.1 hxk.2.2.2, *] <;> omega)), (by first | exact sub_int rfl (by omega) | rfl | exact sub_eq rfl (by rw [fB_succ hA2]; simp [rV, rN, rK, sel, seaB, vacB, wek_and hxk.2.2.1 hxk.2.2.2, *] <;> omega)), (by first | exact sub_int rfl (by omega) | rfl | exact sub_eq rfl (by rw [fB_succ hA2]; simp [rV, rN, rK, sel, seaB, vacB, wek_and hxk.2.2.1 hxk.2.2.2, *] <;> omega)), (by first | exact sub_int rfl (by omega) | rfl | exact sub_eq rfl (by rw [fB_succ hA2]; simp [rV, rN, rK, sel, seaB, vacB, wek_and hxk.2.2.1 hxk.2.2.2, *] <;> omega)), trivial⟩, rfl⟩
        refine a_nil ?_
        refine tq_n ?_
        refine awp_seq ?_
        refine w_reg (l := r54_19.toList) rfl r54_19_ok ?_
        refine a_op rfl ((by first | exact o_fa tf37_1 rfl rfl | exact o_fap tf37_1 rfl rfl)) ?_
        refine a_op rfl ((by first | exact o_ld tg5 rfl rfl | exact o_ldp tg5 rfl rfl rfl rfl)) ?_
        refine a_if rfl (o_eq rfl rfl) (fun h93 => ?_) (fun h94 => ?_)
        · refine a_nil ?_
          refine tq_n ?_
          refine w_true rfl ?_
          refine awp_seq ?_
          refine w_reg (l := r54_20.toList) rfl r54_20_ok ?_
          refine a_op rfl (o_as rfl) ?_
          refine a_nil ?_
          refine tq_n ?_
          have hwl := wk_lt day
          have hwk7 : (wk day).toNat < 7 := by omega
          refine awp_draw ⟨[[], [0], [0, 1], [0, 1, 2], [0, 1], [0, 1, 4], [0, 1, 2, 3, 4, 5], [0, 1, 2, 3, 4, 5, 6], [0, 1, 2, 3, 4, 5, 6, 7], [0, 1, 2, 3, 4, 5, 6, 7, 8]], [[17], [82], [19, 83], [83, 84], [4, 83], [83, 86], [83, 85, 87], [83, 88], [83, 89], [90]], [[], [], [], [1], [], [], [], [], [], []], [none, none, none, none, none, none, none, none, none, none]⟩ mo r54_21_ok (by decide +kernel) (l := r54_21.toList) rfl ?_
          refine d_ifb rfl rfl rfl (fun _ => o_mv rfl) (fun h95 => ?_) (fun h96 => ?_)
          · refine d_op rfl rfl rfl (fun _ => o_mv rfl) ?_
            refine d_off rfl rfl ?_
            refine d_off rfl rfl ?_
            refine d_off rfl rfl ?_
            refine d_off rfl rfl ?_
            refine d_off rfl rfl ?_
            refine d_off rfl rfl ?_
            refine d_op rfl rfl rfl (fun _ => o_pkt rfl rfl) ?_
            refine d_op rfl rfl rfl (fun _ => o_as rfl) ?_
            refine d_nil ?_
            refine bq_n ?_
            refine tq_n ?_
            exact ⟨(), (by rw [fB_succ hA2, hVk]; simp [rV, sel, vacB, *] <;> omega), ⟨(by first | exact sub_int rfl (by omega) | rfl | exact sub_eq rfl (by rw [fB_succ hA2]; simp [rV, rN, rK, sel, seaB, vacB, wek_and hxk.2.2.1 hxk.2.2.2, *] <;> omega)), (by first | exact sub_int rfl (by omega) | rfl | exact sub_eq rfl (by rw [fB_succ hA2]; simp [rV, rN, rK, sel, seaB, vacB, wek_and hxk.2.2.1 hxk.2.2.2, *] <;> omega)), (by first | exact sub_int rfl (by omega) | rfl | exact sub_eq rfl (by rw [fB_succ hA2]; simp [rV, rN, rK, sel, seaB, vacB, wek_and hxk.2.2.1 hxk.2.2.2, *] <;> omega)), (by first | exact sub_int rfl (by omega) | rfl | exact sub_eq rfl (by rw [fB_succ hA2]; simp [rV, rN, rK, sel, seaB, vacB, wek_and hxk.2.2.1 hxk.2.2.2, *] <;> omega)), (by first | exact sub_int rfl (by omega) | rfl | exact sub_eq rfl (by rw [fB_succ hA2]; simp [rV, rN, rK, sel, seaB, vacB, wek_and hxk.2.2.1 hxk.2.2.2, *] <;> omega)), (by first | exact sub_int rfl (by omega) | rfl | exact sub_eq rfl (by rw [fB_succ hA2]; simp [rV, rN, rK, sel, seaB, vacB, wek_and hxk.2.2.1 hxk.2.2.2, *] <;> omega)), (by first | exact sub_int rfl (by omega) | rfl | exact sub_eq rfl (by rw [fB_succ hA2]; simp [rV, rN, rK, sel, seaB, vacB, wek_and hxk.2.2.1 hxk.2.2.2, *] <;> omega)), (by first | exact sub_int rfl (by omega) | rfl | exact sub_eq rfl (by rw [fB_succ hA2]; simp [rV, rN, rK, sel, seaB, vacB, wek_and hxk.2.2.1 hxk.2.2.2, *] <;> omega)), (by first | exact sub_int rfl (by omega) | rfl | exact sub_eq rfl (by rw [fB_succ hA2]; simp [rV, rN, rK, sel, seaB, vacB, wek_and hxk.2.2.1 hxk.2.2.2, *] <;> omega)), (by first | exact sub_int rfl (by omega) | rfl | exact sub_eq rfl (by rw [fB_succ hA2]; simp [rV, rN, rK, sel, seaB, vacB, wek_and hxk.2.2.1 hxk.2.2.2, *] <;> omega)), (by first | exact sub_int rfl (by omega) | rfl | exact sub_eq rfl (by rw [fB_succ hA2]; simp [rV, rN, rK, sel, seaB, vacB, wek_and hxk.2.2.1 hxk.2.2.2, *] <;> omega)), trivial⟩, rfl⟩
          refine d_op rfl rfl rfl (fun _ => o_mv rfl) ?_
          refine d_op rfl rfl rfl (fun _ => (by first | exact o_fa tf37_4 rfl rfl | exact o_fap tf37_4 rfl rfl)) ?_
          refine d_op rfl rfl rfl (fun _ => (by first | exact o_ld tg5 rfl rfl | exact o_ldp tg5 rfl rfl rfl rfl)) ?_
          refine d_op rfl rfl rfl (fun _ => o_mv rfl) ?_
          refine d_pure rfl rfl rfl rfl cb86 (bit_ok _) ?_
          refine d_op rfl rfl rfl (fun _ => o_andp rfl rfl hxk.2.2.1 hxk.2.2.2 hwk7) ?_
          refine d_op rfl rfl rfl (fun _ => o_ne rfl rfl) ?_
          refine d_op rfl rfl rfl (fun _ => o_pkf rfl rfl) ?_
          refine d_ifb rfl rfl rfl (fun _ => o_as rfl) (fun h97 => ?_) (fun h98 => ?_)
          · refine d_nil ?_
            refine bq_n ?_
            refine tq_n ?_
            exact ⟨(), (by rw [fB_succ hA2, hVk]; simp [rV, sel, vacB, *] <;> omega), ⟨(by first | exact sub_int rfl (by omega) | rfl | exact sub_eq rfl (by rw [fB_succ hA2]; simp [rV, rN, rK, sel, seaB, vacB, wek_and hxk.2.2.1 hxk.2.2.2, *] <;> omega)), (by first | exact sub_int rfl (by omega) | rfl | exact sub_eq rfl (by rw [fB_succ hA2]; simp [rV, rN, rK, sel, seaB, vacB, wek_and hxk.2.2.1 hxk.2.2.2, *] <;> omega)), (by first | exact sub_int rfl (by omega) | rfl | exact sub_eq rfl (by rw [fB_succ hA2]; simp [rV, rN, rK, sel, seaB, vacB, wek_and hxk.2.2.1 hxk.2.2.2, *] <;> omega)), (by first | exact sub_int rfl (by omega) | rfl | exact sub_eq rfl (by rw [fB_succ hA2]; simp [rV, rN, rK, sel, seaB, vacB, wek_and hxk.2.2.1 hxk.2.2.2, *] <;> omega)), (by first | exact sub_int rfl (by omega) | rfl | exact sub_eq rfl (by rw [fB_succ hA2]; simp [rV, rN, rK, sel, seaB, vacB, wek_and hxk.2.2.1 hxk.2.2.2, *] <;> omega)), (by first | exact sub_int rfl (by omega) | rfl | exact sub_eq rfl (by rw [fB_succ hA2]; simp [rV, rN, rK, sel, seaB, vacB, wek_and hxk.2.2.1 hxk.2.2.2, *] <;> omega)), (by first | exact sub_int rfl (by omega) | rfl | exact sub_eq rfl (by rw [fB_succ hA2]; simp [rV, rN, rK, sel, seaB, vacB, wek_and hxk.2.2.1 hxk.2.2.2, *] <;> omega)), (by first | exact sub_int rfl (by omega) | rfl | exact sub_eq rfl (by rw [fB_succ hA2]; simp [rV, rN, rK, sel, seaB, vacB, wek_and hxk.2.2.1 hxk.2.2.2, *] <;> omega)), (by first | exact sub_int rfl (by omega) | rfl | exact sub_eq rfl (by rw [fB_succ hA2]; simp [rV, rN, rK, sel, seaB, vacB, wek_and hxk.2.2.1 hxk.2.2.2, *] <;> omega)), (by first | exact sub_int rfl (by omega) | rfl | exact sub_eq rfl (by rw [fB_succ hA2]; simp [rV, rN, rK, sel, seaB, vacB, wek_and hxk.2.2.1 hxk.2.2.2, *] <;> omega)), (by first | exact sub_int rfl (by omega) | rfl | exact sub_eq rfl (by rw [fB_succ hA2]; simp [rV, rN, rK, sel, seaB, vacB, wek_and hxk.2.2.1 hxk.2.2.2, *] <;> omega)), trivial⟩, rfl⟩
          refine d_nil ?_
          refine bq_n ?_
          refine tq_n ?_
          exact ⟨(), (by rw [fB_succ hA2, hVk]; simp [rV, sel, vacB, *] <;> omega), ⟨(by first | exact sub_int rfl (by omega) | rfl | exact sub_eq rfl (by rw [fB_succ hA2]; simp [rV, rN, rK, sel, seaB, vacB, wek_and hxk.2.2.1 hxk.2.2.2, *] <;> omega)), (by first | exact sub_int rfl (by omega) | rfl | exact sub_eq rfl (by rw [fB_succ hA2]; simp [rV, rN, rK, sel, seaB, vacB, wek_and hxk.2.2.1 hxk.2.2.2, *] <;> omega)), (by first | exact sub_int rfl (by omega) | rfl | exact sub_eq rfl (by rw [fB_succ hA2]; simp [rV, rN, rK, sel, seaB, vacB, wek_and hxk.2.2.1 hxk.2.2.2, *] <;> omega)), (by first | exact sub_int rfl (by omega) | rfl | exact sub_eq rfl (by rw [fB_succ hA2]; simp [rV, rN, rK, sel, seaB, vacB, wek_and hxk.2.2.1 hxk.2.2.2, *] <;> omega)), (by first | exact sub_int rfl (by omega) | rfl | exact sub_eq rfl (by rw [fB_succ hA2]; simp [rV, rN, rK, sel, seaB, vacB, wek_and hxk.2.2.1 hxk.2.2.2, *] <;> omega)), (by first | exact sub_int rfl (by omega) | rfl | exact sub_eq rfl (by rw [fB_succ hA2]; simp [rV, rN, rK, sel, seaB, vacB, wek_and hxk.2.2.1 hxk.2.2.2, *] <;> omega)), (by first | exact sub_int rfl (by omega) | rfl | exact sub_eq rfl (by rw [fB_succ hA2]; simp [rV, rN, rK, sel, seaB, vacB, wek_and hxk.2.2.1 hxk.2.2.2, *] <;> omega)), (by first | exact sub_int rfl (by omega) | rfl | exact sub_eq rfl (by rw [fB_succ hA2]; simp [rV, rN, rK, sel, seaB, vacB, wek_and hxk.2.2.1 hxk.2.2.2, *] <;> omega)), (by first | exact sub_int rfl (by omega) | rfl | exact sub_eq rfl (by rw [fB_succ hA2]; simp [rV, rN, rK, sel, seaB, vacB, wek_and hxk.2.2.1 hxk.2.2.2, *] <;> omega)), (by first | exact sub_int rfl (by omega) | rfl | exact sub_eq rfl (by rw [fB_succ hA2]; simp [rV, rN, rK, sel, seaB, vacB, wek_and hxk.2.2.1 hxk.2.2.2, *] <;> omega)), (by first | exact sub_int rfl (by omega) | rfl | exact sub_eq rfl (by rw [fB_succ hA2]; simp [rV, rN, rK, sel, seaB, vacB, wek_and hxk.2.2.1 hxk.2.2.2, *] <;> omega)), trivial⟩, rfl⟩
        refine a_nil ?_
        refine tq_n ?_
        refine w_false rfl ?_
        refine awp_skip ?_
        refine bq_n ?_
        refine tq_n ?_
        exact ⟨(), (by rw [fB_succ hA2, hVk]; simp [rV, sel, vacB, *] <;> omega), ⟨(by first | exact sub_int rfl (by omega) | rfl | exact sub_eq rfl (by rw [fB_succ hA2]; simp [rV, rN, rK, sel, seaB, vacB, wek_and hxk.2.2.1 hxk.2.2.2, *] <;> omega)), (by first | exact sub_int rfl (by omega) | rfl | exact sub_eq rfl (by rw [fB_succ hA2]; simp [rV, rN, rK, sel, seaB, vacB, wek_and hxk.2.2.1 hxk.2.2.2, *] <;> omega)), (by first | exact sub_int rfl (by omega) | rfl | exact sub_eq rfl (by rw [fB_succ hA2]; simp [rV, rN, rK, sel, seaB, vacB, wek_and hxk.2.2.1 hxk.2.2.2, *] <;> omega)), (by first | exact sub_int rfl (by omega) | rfl | exact sub_eq rfl (by rw [fB_succ hA2]; simp [rV, rN, rK, sel, seaB, vacB, wek_and hxk.2.2.1 hxk.2.2.2, *] <;> omega)), (by first | exact sub_int rfl (by omega) | rfl | exact sub_eq rfl (by rw [fB_succ hA2]; simp [rV, rN, rK, sel, seaB, vacB, wek_and hxk.2.2.1 hxk.2.2.2, *] <;> omega)), (by first | exact sub_int rfl (by omega) | rfl | exact sub_eq rfl (by rw [fB_succ hA2]; simp [rV, rN, rK, sel, seaB, vacB, wek_and hxk.2.2.1 hxk.2.2.2, *] <;> omega)), (by first | exact sub_int rfl (by omega) | rfl | exact sub_eq rfl (by rw [fB_succ hA2]; simp [rV, rN, rK, sel, seaB, vacB, wek_and hxk.2.2.1 hxk.2.2.2, *] <;> omega)), (by first | exact sub_int rfl (by omega) | rfl | exact sub_eq rfl (by rw [fB_succ hA2]; simp [rV, rN, rK, sel, seaB, vacB, wek_and hxk.2.2.1 hxk.2.2.2, *] <;> omega)), (by first | exact sub_int rfl (by omega) | rfl | exact sub_eq rfl (by rw [fB_succ hA2]; simp [rV, rN, rK, sel, seaB, vacB, wek_and hxk.2.2.1 hxk.2.2.2, *] <;> omega)), (by first | exact sub_int rfl (by omega) | rfl | exact sub_eq rfl (by rw [fB_succ hA2]; simp [rV, rN, rK, sel, seaB, vacB, wek_and hxk.2.2.1 hxk.2.2.2, *] <;> omega)), (by first | exact sub_int rfl (by omega) | rfl | exact sub_eq rfl (by rw [fB_succ hA2]; simp [rV, rN, rK, sel, seaB, vacB, wek_and hxk.2.2.1 hxk.2.2.2, *] <;> omega)), trivial⟩, rfl⟩
      refine a_nil ?_
      refine tq_n ?_
      refine w_false rfl ?_
      refine awp_skip ?_
      refine tq_n ?_
      refine awp_seq ?_
      refine w_reg (l := r54_19.toList) rfl r54_19_ok ?_
      refine a_op rfl ((by first | exact o_fa tf37_1 rfl rfl | exact o_fap tf37_1 rfl rfl)) ?_
      refine a_op rfl ((by first | exact o_ld tg5 rfl rfl | exact o_ldp tg5 rfl rfl rfl rfl)) ?_
      refine a_if rfl (o_eq rfl rfl) (fun h99 => ?_) (fun h100 => ?_)
      · refine a_nil ?_
        refine tq_n ?_
        refine w_true rfl ?_
        refine awp_seq ?_
        refine w_reg (l := r54_20.toList) rfl r54_20_ok ?_
        refine a_op rfl (o_as rfl) ?_
        refine a_nil ?_
        refine tq_n ?_
        have hwl := wk_lt day
        have hwk7 : (wk day).toNat < 7 := by omega
        refine awp_draw ⟨[[], [0], [0, 1], [0, 1, 2], [0, 1], [0, 1, 4], [0, 1, 2, 3, 4, 5], [0, 1, 2, 3, 4, 5, 6], [0, 1, 2, 3, 4, 5, 6, 7], [0, 1, 2, 3, 4, 5, 6, 7, 8]], [[17], [82], [19, 83], [83, 84], [4, 83], [83, 86], [83, 85, 87], [83, 88], [83, 89], [90]], [[], [], [], [1], [], [], [], [], [], []], [none, none, none, none, none, none, none, none, none, none]⟩ mo r54_21_ok (by decide +kernel) (l := r54_21.toList) rfl ?_
        refine d_ifb rfl rfl rfl (fun _ => o_mv rfl) (fun h101 => ?_) (fun h102 => ?_)
        · refine d_op rfl rfl rfl (fun _ => o_mv rfl) ?_
          refine d_off rfl rfl ?_
          refine d_off rfl rfl ?_
          refine d_off rfl rfl ?_
          refine d_off rfl rfl ?_
          refine d_off rfl rfl ?_
          refine d_off rfl rfl ?_
          refine d_op rfl rfl rfl (fun _ => o_pkt rfl rfl) ?_
          refine d_op rfl rfl rfl (fun _ => o_as rfl) ?_
          refine d_nil ?_
          refine bq_n ?_
          refine tq_n ?_
          exact ⟨(), (by rw [fB_succ hA2, hVk]; simp [rV, sel, vacB, *] <;> omega), ⟨(by first | exact sub_int rfl (by omega) | rfl | exact sub_eq rfl (by rw [fB_succ hA2]; simp [rV, rN, rK, sel, seaB, vacB, wek_and hxk.2.2.1 hxk.2.2.2, *] <;> omega)), (by first | exact sub_int rfl (by omega) | rfl | exact sub_eq rfl (by rw [fB_succ hA2]; simp [rV, rN, rK, sel, seaB, vacB, wek_and hxk.2.2.1 hxk.2.2.2, *] <;> omega)), (by first | exact sub_int rfl (by omega) | rfl | exact sub_eq rfl (by rw [fB_succ hA2]; simp [rV, rN, rK, sel, seaB, vacB, wek_and hxk.2.2.1 hxk.2.2.2, *] <;> omega)), (by first | exact sub_int rfl (by omega) | rfl | exact sub_eq rfl (by rw [fB_succ hA2]; simp [rV, rN, rK, sel, seaB, vacB, wek_and hxk.2.2.1 hxk.2.2.2, *] <;> omega)), (by first | exact sub_int rfl (by omega) | rfl | exact sub_eq rfl (by rw [fB_succ hA2]; simp [rV, rN, rK, sel, seaB, vacB, wek_and hxk.2.2.1 hxk.2.2.2, *] <;> omega)), (by first | exact sub_int rfl (by omega) | rfl | exact sub_eq rfl (by rw [fB_succ hA2]; simp [rV, rN, rK, sel, seaB, vacB, wek_and hxk.2.2.1 hxk.2.2.2, *] <;> omega)), (by first | exact sub_int rfl (by omega) | rfl | exact sub_eq rfl (by rw [fB_succ hA2]; simp [rV, rN, rK, sel, seaB, vacB, wek_and hxk.2.2.1 hxk.2.2.2, *] <;> omega)), (by first | exact sub_int rfl (by omega) | rfl | exact sub_eq rfl (by rw [fB_succ hA2]; simp [rV, rN, rK, sel, seaB, vacB, wek_and hxk.2.2.1 hxk.2.2.2, *] <;> omega)), (by first | exact sub_int rfl (by omega) | rfl | exact sub_eq rfl (by rw [fB_succ hA2]; simp [rV, rN, rK, sel, seaB, vacB, wek_and hxk.2.2.1 hxk.2.2.2, *] <;> omega)), (by first | exact sub_int rfl (by omega) | rfl | exact sub_eq rfl (by rw [fB_succ hA2]; simp [rV, rN, rK, sel, seaB, vacB, wek_and hxk.2.2.1 hxk.2.2.2, *] <;> omega)), (by first | exact sub_int rfl (by omega) | rfl | exact sub_eq rfl (by rw [fB_succ hA2]; simp [rV, rN, rK, sel, seaB, vacB, wek_and hxk.2.2.1 hxk.2.2.2, *] <;> omega)), trivial⟩, rfl⟩
        refine d_op rfl rfl rfl (fun _ => o_mv rfl) ?_
        refine d_op rfl rfl rfl (fun _ => (by first | exact o_fa tf37_4 rfl rfl | exact o_fap tf37_4 rfl rfl)) ?_
        refine d_op rfl rfl rfl (fun _ => (by first | exact o_ld tg5 rfl rfl | exact o_ldp tg5 rfl rfl rfl rfl)) ?_
        refine d_op rfl rfl rfl (fun _ => o_mv rfl) ?_
        refine d_pure rfl rfl rfl rfl cb86 (bit_ok _) ?_
        refine d_op rfl rfl rfl (fun _ => o_andp rfl rfl hxk.2.2.1 hxk.2.2.2 hwk7) ?_
        refine d_op rfl rfl rfl (fun _ => o_ne rfl rfl) ?_
        refine d_op rfl rfl rfl (fun _ => o_pkf rfl rfl) ?_
        refine d_ifb rfl rfl rfl (fun _ => o_as rfl) (fun h103 => ?_) (fun h104 => ?_)
        · refine d_nil ?_
          refine bq_n ?_
          refine tq_n ?_
          exact ⟨(), (by rw [fB_succ hA2, hVk]; simp [rV, sel, vacB, *] <;> omega), ⟨(by first | exact sub_int rfl (by omega) | rfl | exact sub_eq rfl (by rw [fB_succ hA2]; simp [rV, rN, rK, sel, seaB, vacB, wek_and hxk.2.2.1 hxk.2.2.2, *] <;> omega)), (by first | exact sub_int rfl (by omega) | rfl | exact sub_eq rfl (by rw [fB_succ hA2]; simp [rV, rN, rK, sel, seaB, vacB, wek_and hxk.2.2.1 hxk.2.2.2, *] <;> omega)), (by first | exact sub_int rfl (by omega) | rfl | exact sub_eq rfl (by rw [fB_succ hA2]; simp [rV, rN, rK, sel, seaB, vacB, wek_and hxk.2.2.1 hxk.2.2.2, *] <;> omega)), (by first | exact sub_int rfl (by omega) | rfl | exact sub_eq rfl (by rw [fB_succ hA2]; simp [rV, rN, rK, sel, seaB, vacB, wek_and hxk.2.2.1 hxk.2.2.2, *] <;> omega)), (by first | exact sub_int rfl (by omega) | rfl | exact sub_eq rfl (by rw [fB_succ hA2]; simp [rV, rN, rK, sel, seaB, vacB, wek_and hxk.2.2.1 hxk.2.2.2, *] <;> omega)), (by first | exact sub_int rfl (by omega) | rfl | exact sub_eq rfl (by rw [fB_succ hA2]; simp [rV, rN, rK, sel, seaB, vacB, wek_and hxk.2.2.1 hxk.2.2.2, *] <;> omega)), (by first | exact sub_int rfl (by omega) | rfl | exact sub_eq rfl (by rw [fB_succ hA2]; simp [rV, rN, rK, sel, seaB, vacB, wek_and hxk.2.2.1 hxk.2.2.2, *] <;> omega)), (by first | exact sub_int rfl (by omega) | rfl | exact sub_eq rfl (by rw [fB_succ hA2]; simp [rV, rN, rK, sel, seaB, vacB, wek_and hxk.2.2.1 hxk.2.2.2, *] <;> omega)), (by first | exact sub_int rfl (by omega) | rfl | exact sub_eq rfl (by rw [fB_succ hA2]; simp [rV, rN, rK, sel, seaB, vacB, wek_and hxk.2.2.1 hxk.2.2.2, *] <;> omega)), (by first | exact sub_int rfl (by omega) | rfl | exact sub_eq rfl (by rw [fB_succ hA2]; simp [rV, rN, rK, sel, seaB, vacB, wek_and hxk.2.2.1 hxk.2.2.2, *] <;> omega)), (by first | exact sub_int rfl (by omega) | rfl | exact sub_eq rfl (by rw [fB_succ hA2]; simp [rV, rN, rK, sel, seaB, vacB, wek_and hxk.2.2.1 hxk.2.2.2, *] <;> omega)), trivial⟩, rfl⟩
        refine d_nil ?_
        refine bq_n ?_
        refine tq_n ?_
        exact ⟨(), (by rw [fB_succ hA2, hVk]; simp [rV, sel, vacB, *] <;> omega), ⟨(by first | exact sub_int rfl (by omega) | rfl | exact sub_eq rfl (by rw [fB_succ hA2]; simp [rV, rN, rK, sel, seaB, vacB, wek_and hxk.2.2.1 hxk.2.2.2, *] <;> omega)), (by first | exact sub_int rfl (by omega) | rfl | exact sub_eq rfl (by rw [fB_succ hA2]; simp [rV, rN, rK, sel, seaB, vacB, wek_and hxk.2.2.1 hxk.2.2.2, *] <;> omega)), (by first | exact sub_int rfl (by omega) | rfl | exact sub_eq rfl (by rw [fB_succ hA2]; simp [rV, rN, rK, sel, seaB, vacB, wek_and hxk.2.2.1 hxk.2.2.2, *] <;> omega)), (by first | exact sub_int rfl (by omega) | rfl | exact sub_eq rfl (by rw [fB_succ hA2]; simp [rV, rN, rK, sel, seaB, vacB, wek_and hxk.2.2.1 hxk.2.2.2, *] <;> omega)), (by first | exact sub_int rfl (by omega) | rfl | exact sub_eq rfl (by rw [fB_succ hA2]; simp [rV, rN, rK, sel, seaB, vacB, wek_and hxk.2.2.1 hxk.2.2.2, *] <;> omega)), (by first | exact sub_int rfl (by omega) | rfl | exact sub_eq rfl (by rw [fB_succ hA2]; simp [rV, rN, rK, sel, seaB, vacB, wek_and hxk.2.2.1 hxk.2.2.2, *] <;> omega)), (by first | exact sub_int rfl (by omega) | rfl | exact sub_eq rfl (by rw [fB_succ hA2]; simp [rV, rN, rK, sel, seaB, vacB, wek_and hxk.2.2.1 hxk.2.2.2, *] <;> omega)), (by first | exact sub_int rfl (by omega) | rfl | exact sub_eq rfl (by rw [fB_succ hA2]; simp [rV, rN, rK, sel, seaB, vacB, wek_and hxk.2.2.1 hxk.2.2.2, *] <;> omega)), (by first | exact sub_int rfl (by omega) | rfl | exact sub_eq rfl (by rw [fB_succ hA2]; simp [rV, rN, rK, sel, seaB, vacB, wek_and hxk.2.2.1 hxk.2.2.2, *] <;> omega)), (by first | exact sub_int rfl (by omega) | rfl | exact sub_eq rfl (by rw [fB_succ hA2]; simp [rV, rN, rK, sel, seaB, vacB, wek_and hxk.2.2.1 hxk.2.2.2, *] <;> omega)), (by first | exact sub_int rfl (by omega) | rfl | exact sub_eq rfl (by rw [fB_succ hA2]; simp [rV, rN, rK, sel, seaB, vacB, wek_and hxk.2.2.1 hxk.2.2.2, *] <;> omega)), trivial⟩, rfl⟩
      refine a_nil ?_
      refine tq_n ?_
      refine w_false rfl ?_
      refine awp_skip ?_
      refine bq_n ?_
      refine tq_n ?_
      exact ⟨(), (by rw [fB_succ hA2, hVk]; simp [rV, sel, vacB, *] <;> omega), ⟨(by first | exact sub_int rfl (by omega) | rfl | exact sub_eq rfl (by rw [fB_succ hA2]; simp [rV, rN, rK, sel, seaB, vacB, wek_and hxk.2.2.1 hxk.2.2.2, *] <;> omega)), (by first | exact sub_int rfl (by omega) | rfl | exact sub_eq rfl (by rw [fB_succ hA2]; simp [rV, rN, rK, sel, seaB, vacB, wek_and hxk.2.2.1 hxk.2.2.2, *] <;> omega)), (by first | exact sub_int rfl (by omega) | rfl | exact sub_eq rfl (by rw [fB_succ hA2]; simp [rV, rN, rK, sel, seaB, vacB, wek_and hxk.2.2.1 hxk.2.2.2, *] <;> omega)), (by first | exact sub_int rfl (by omega) | rfl | exact sub_eq rfl (by rw [fB_succ hA2]; simp [rV, rN, rK, sel, seaB, vacB, wek_and hxk.2.2.1 hxk.2.2.2, *] <;> omega)), (by first | exact sub_int rfl (by omega) | rfl | exact sub_eq rfl (by rw [fB_succ hA2]; simp [rV, rN, rK, sel, seaB, vacB, wek_and hxk.2.2.1 hxk.2.2.2, *] <;> omega)), (by first | exact sub_int rfl (by omega) | rfl | exact sub_eq rfl (by rw [fB_succ hA2]; simp [rV, rN, rK, sel, seaB, vacB, wek_and hxk.2.2.1 hxk.2.2.2, *] <;> omega)), (by first | exact sub_int rfl (by omega) | rfl | exact sub_eq rfl (by rw [fB_succ hA2]; simp [rV, rN, rK, sel, seaB, vacB, wek_and hxk.2.2.1 hxk.2.2.2, *] <;> omega)), (by first | exact sub_int rfl (by omega) | rfl | exact sub_eq rfl (by rw [fB_succ hA2]; simp [rV, rN, rK, sel, seaB, vacB, wek_and hxk.2.2.1 hxk.2.2.2, *] <;> omega)), (by first | exact sub_int rfl (by omega) | rfl | exact sub_eq rfl (by rw [fB_succ hA2]; simp [rV, rN, rK, sel, seaB, vacB, wek_and hxk.2.2.1 hxk.2.2.2, *] <;> omega)), (by first | exact sub_int rfl (by omega) | rfl | exact sub_eq rfl (by rw [fB_succ hA2]; simp [rV, rN, rK, sel, seaB, vacB, wek_and hxk.2.2.1 hxk.2.2.2, *] <;> omega)), (by first | exact sub_int rfl (by omega) | rfl | exact sub_eq rfl (by rw [fB_succ hA2]; simp [rV, rN, rK, sel, seaB, vacB, wek_and hxk.2.2.1 hxk.2.2.2, *] <;> omega)), trivial⟩, rfl⟩
    intro _ hVn
    refine w_view [(1, .sl 5 b1 (rules.map ruleAV)), (2, .sl 1 b2 (hol.map intAV)), (3, .raw (.int .i64 n)), (4, .raw (.int .i64 day)), (5, .ptr 0 0), (13, .raw (.int .i64 (ixf n pts 0))), (14, .raw (.bool (fB (sel n 1) rules (kA + 1)))), (15, .raw (.bool (fB (rN n day) rules (kA + 1)))), (16, .raw (.bool (fB (sel n 3) rules (kA + 1)))), (17, .raw (.bool (fB (rK n day) rules (kA + 1)))), (18, .raw (.int .i64 ((kA : Nat) : Int)))] [.var [a1, a2, a3, .sl 8 b (pts.map ptAV)]] 1 rfl (Nat.le_of_ble_eq_true rfl) (Nat.le_of_ble_eq_true rfl) ⟨⟨_, rfl, (by first | exact .sloK (Nat.le_of_ble_eq_true rfl) | exact .ptrK (Nat.le_of_ble_eq_true rfl) | exact rs_pur (by simp) rfl)⟩, ⟨_, rfl, (by first | exact .sloK (Nat.le_of_ble_eq_true rfl) | exact .ptrK (Nat.le_of_ble_eq_true rfl) | exact rs_pur (by simp) rfl)⟩, ⟨_, rfl, (by first | exact .sloK (Nat.le_of_ble_eq_true rfl) | exact .ptrK (Nat.le_of_ble_eq_true rfl) | exact rs_pur (by simp) rfl)⟩, ⟨_, rfl, (by first | exact .sloK (Nat.le_of_ble_eq_true rfl) | exact .ptrK (Nat.le_of_ble_eq_true rfl) | exact rs_pur (by simp) rfl)⟩, ⟨_, rfl, (by first | exact .sloK (Nat.le_of_ble_eq_true rfl) | exact .ptrK (Nat.le_of_ble_eq_true rfl) | exact rs_pur (by simp) rfl)⟩, ⟨_, rfl, (by first | exact .sloK (Nat.le_of_ble_eq_true rfl) | exact .ptrK (Nat.le_of_ble_eq_true rfl) | exact rs_pur (by simp) rfl)⟩, ⟨_, rfl, (by first | exact .sloK (Nat.le_of_ble_eq_true rfl) | exact .ptrK (Nat.le_of_ble_eq_true rfl) | exact rs_pur (by simp) rfl)⟩, ⟨_, rfl, (by first | exact .sloK (Nat.le_of_ble_eq_true rfl) | exact .ptrK (Nat.le_of_ble_eq_true rfl) | exact rs_pur (by simp) rfl)⟩, ⟨_, rfl, (by first | exact .sloK (Nat.le_of_ble_eq_true rfl) | exact .ptrK (Nat.le_of_ble_eq_true rfl) | exact rs_pur (by simp) rfl)⟩, ⟨_, rfl, (by first | exact .sloK (Nat.le_of_ble_eq_true rfl) | exact .ptrK (Nat.le_of_ble_eq_true rfl) | exact rs_pur (by simp) rfl)⟩, ⟨_, rfl, (by first | exact .sloK (Nat.le_of_ble_eq_true rfl) | exact .ptrK (Nat.le_of_ble_eq_true rfl) | exact rs_pur (by simp) rfl)⟩, trivial⟩ ⟨ors_var ⟨rs_pur g1.1 rfl, rs_pur g2.1 rfl, rs_pur g3.1 rfl, rs_pur (by simp) rfl, trivial⟩, trivial⟩ ?_
    refine w_reg (l := r54_10.toList) rfl r54_10_ok ?_
    refine a_op rfl (o_mv rfl) ?_
    refine a_op rfl (o_add rfl rfl (by simp only [klo, khi]; omega)) ?_
    refine a_op rfl (o_as rfl) ?_
    refine a_nil ?_
    refine tq_n ?_
    exact ⟨kA + 1, ⟨⟨by omega, hVn⟩, by omega⟩, ⟨(by first | exact sub_int rfl (by omega) | rfl | exact sub_eq rfl (by rw [fB_succ hA2]; simp [rV, rN, rK, sel, seaB, vacB, wek_and hxk.2.2.1 hxk.2.2.2, *] <;> omega)), (by first | exact sub_int rfl (by omega) | rfl | exact sub_eq rfl (by rw [fB_succ hA2]; simp [rV, rN, rK, sel, seaB, vacB, wek_and hxk.2.2.1 hxk.2.2.2, *] <;> omega)), (by first | exact sub_int rfl (by omega) | rfl | exact sub_eq rfl (by rw [fB_succ hA2]; simp [rV, rN, rK, sel, seaB, vacB, wek_and hxk.2.2.1 hxk.2.2.2, *] <;> omega)), (by first | exact sub_int rfl (by omega) | rfl | exact sub_eq rfl (by rw [fB_succ hA2]; simp [rV, rN, rK, sel, seaB, vacB, wek_and hxk.2.2.1 hxk.2.2.2, *] <;> omega)), (by first | exact sub_int rfl (by omega) | rfl | exact sub_eq rfl (by rw [fB_succ hA2]; simp [rV, rN, rK, sel, seaB, vacB, wek_and hxk.2.2.1 hxk.2.2.2, *] <;> omega)), (by first | exact sub_int rfl (by omega) | rfl | exact sub_eq rfl (by rw [fB_succ hA2]; simp [rV, rN, rK, sel, seaB, vacB, wek_and hxk.2.2.1 hxk.2.2.2, *] <;> omega)), (by first | exact sub_int rfl (by omega) | rfl | exact sub_eq rfl (by rw [fB_succ hA2]; simp [rV, rN, rK, sel, seaB, vacB, wek_and hxk.2.2.1 hxk.2.2.2, *] <;> omega)), (by first | exact sub_int rfl (by omega) | rfl | exact sub_eq rfl (by rw [fB_succ hA2]; simp [rV, rN, rK, sel, seaB, vacB, wek_and hxk.2.2.1 hxk.2.2.2, *] <;> omega)), (by first | exact sub_int rfl (by omega) | rfl | exact sub_eq rfl (by rw [fB_succ hA2]; simp [rV, rN, rK, sel, seaB, vacB, wek_and hxk.2.2.1 hxk.2.2.2, *] <;> omega)), (by first | exact sub_int rfl (by omega) | rfl | exact sub_eq rfl (by rw [fB_succ hA2]; simp [rV, rN, rK, sel, seaB, vacB, wek_and hxk.2.2.1 hxk.2.2.2, *] <;> omega)), (by first | exact sub_int rfl (by omega) | rfl | exact sub_eq rfl (by rw [fB_succ hA2]; simp [rV, rN, rK, sel, seaB, vacB, wek_and hxk.2.2.1 hxk.2.2.2, *] <;> omega)), trivial⟩, rfl⟩
  refine a_nil ?_
  refine tq_n ?_
  refine w_false rfl ?_
  refine awp_exit ?_
  refine tq_x ?_
  refine tq_x ?_
  refine bq_hit ?_
  refine tq_n ?_
  refine awp_seq ?_
  refine awp_seq ?_
  refine w_reg (l := r54_22.toList) rfl r54_22_ok ?_
  refine a_ifb rfl (o_mv rfl) (fun h105 => ?_) (fun h106 => ?_)
  · refine a_op rfl (o_mv rfl) ?_
    refine a_ifb rfl (o_mv rfl) (fun h107 => ?_) (fun h108 => ?_)
    · refine a_op rfl (o_ntt rfl) ?_
      refine a_op rfl (o_pkt rfl rfl) ?_
      refine a_op rfl (o_mv rfl) ?_
      refine a_ifb rfl (o_mv rfl) (fun h109 => ?_) (fun h110 => ?_)
      · refine a_op rfl (o_mv rfl) ?_
        refine a_ifb rfl (o_mv rfl) (fun h111 => ?_) (fun h112 => ?_)
        · refine a_op rfl (o_ntt rfl) ?_
          refine a_op rfl (o_pkt rfl rfl) ?_
          refine a_op rfl (o_pkf rfl rfl) ?_
          refine a_nil ?_
          refine tq_n ?_
          refine w_false rfl ?_
          refine awp_skip ?_
          refine tq_n ?_
          refine awp_seq ?_
          refine awp_seq ?_
          have hno : fB (sel n 1) rules kA = false ∨ fB (rN n day) rules kA = true := by first | exact .inl (by assumption) | exact .inr (by assumption)
          have hno2 : fB (sel n 3) rules kA = false ∨ fB (rK n day) rules kA = true := by first | exact .inl (by assumption) | exact .inr (by assumption)
          refine w_reg (l := r54_24.toList) rfl r54_24_ok ?_
          refine a_op rfl (o_as rfl) ?_
          refine a_nil ?_
          refine tq_n ?_
          refine awp_block ?_
          refine w_loop (fun k : Nat => k ≤ hol.length ∧ ∀ y ∈ hol.take k, y = day → ¬ (pts[jj]'hjj).street = 0) (fun k => [(1, .sl 5 b1 (rules.map ruleAV)), (2, .sl 1 b2 (hol.map intAV)), (3, .raw (.int .i64 n)), (4, .raw (.int .i64 day)), (5, .ptr 0 0), (13, .raw (.int .i64 (ixf n pts 0))), (14, .raw (.bool (fB (sel n 1) rules (kA)))), (15, .raw (.bool (fB (rN n day) rules (kA)))), (16, .raw (.bool (fB (sel n 3) rules (kA)))), (17, .raw (.bool (fB (rK n day) rules (kA)))), (22, .raw (.int .i64 ((k : Nat) : Int)))]) (fun _ => [.var [a1, a2, a3, .sl 8 b (pts.map ptAV)]]) (fun k => hol.length - k) (0) ⟨by omega, by simp⟩ ⟨(by first | exact sub_int rfl (by omega) | rfl | exact sub_eq rfl (by rw [fB_succ hA2]; simp [rV, rN, rK, sel, seaB, vacB, wek_and hxk.2.2.1 hxk.2.2.2, *] <;> omega)), (by first | exact sub_int rfl (by omega) | rfl | exact sub_eq rfl (by rw [fB_succ hA2]; simp [rV, rN, rK, sel, seaB, vacB, wek_and hxk.2.2.1 hxk.2.2.2, *] <;> omega)), (by first | exact sub_int rfl (by omega) | rfl | exact sub_eq rfl (by rw [fB_succ hA2]; simp [rV, rN, rK, sel, seaB, vacB, wek_and hxk.2.2.1 hxk.2.2.2, *] <;> omega)), (by first | exact sub_int rfl (by omega) | rfl | exact sub_eq rfl (by rw [fB_succ hA2]; simp [rV, rN, rK, sel, seaB, vacB, wek_and hxk.2.2.1 hxk.2.2.2, *] <;> omega)), (by first | exact sub_int rfl (by omega) | rfl | exact sub_eq rfl (by rw [fB_succ hA2]; simp [rV, rN, rK, sel, seaB, vacB, wek_and hxk.2.2.1 hxk.2.2.2, *] <;> omega)), (by first | exact sub_int rfl (by omega) | rfl | exact sub_eq rfl (by rw [fB_succ hA2]; simp [rV, rN, rK, sel, seaB, vacB, wek_and hxk.2.2.1 hxk.2.2.2, *] <;> omega)), (by first | exact sub_int rfl (by omega) | rfl | exact sub_eq rfl (by rw [fB_succ hA2]; simp [rV, rN, rK, sel, seaB, vacB, wek_and hxk.2.2.1 hxk.2.2.2, *] <;> omega)), (by first | exact sub_int rfl (by omega) | rfl | exact sub_eq rfl (by rw [fB_succ hA2]; simp [rV, rN, rK, sel, seaB, vacB, wek_and hxk.2.2.1 hxk.2.2.2, *] <;> omega)), (by first | exact sub_int rfl (by omega) | rfl | exact sub_eq rfl (by rw [fB_succ hA2]; simp [rV, rN, rK, sel, seaB, vacB, wek_and hxk.2.2.1 hxk.2.2.2, *] <;> omega)), (by first | exact sub_int rfl (by omega) | rfl | exact sub_eq rfl (by rw [fB_succ hA2]; simp [rV, rN, rK, sel, seaB, vacB, wek_and hxk.2.2.1 hxk.2.2.2, *] <;> omega)), (by first | exact sub_int rfl (by omega) | rfl | exact sub_eq rfl (by rw [fB_succ hA2]; simp [rV, rN, rK, sel, seaB, vacB, wek_and hxk.2.2.1 hxk.2.2.2, *] <;> omega)), trivial⟩ rfl ?_
          intro kB ⟨hB, hhB⟩
          unfold b54_1
          refine awp_seq ?_
          refine awp_seq ?_
          refine w_reg (l := r54_25.toList) rfl r54_25_ok ?_
          refine a_op rfl (o_mv rfl) ?_
          refine a_op rfl (o_mv rfl) ?_
          refine a_op rfl (o_len rfl rfl (by first | exact List.length_map .. | rfl) tl34) ?_
          refine a_if rfl (o_lt rfl rfl) (fun h113 => ?_) (fun h114 => ?_)
          · refine a_nil ?_
            refine tq_n ?_
            refine w_true rfl ?_
            refine awp_skip ?_
            refine tq_n ?_
            refine awp_seq ?_
            refine awp_block ?_
            refine awp_seq ?_
            have hB2 : kB < hol.length := by omega
            refine w_reg (l := r54_27.toList) rfl r54_27_ok ?_
            refine a_op rfl (o_mv rfl) ?_
            refine a_op rfl (o_mv rfl) ?_
            refine a_op rfl (o_ix te34 tn3 rfl rfl rfl (ixm _ _ _ hB2)) ?_
            refine a_op rfl ((by first | exact o_ld tg3 rfl rfl | exact o_ldp tg3 rfl rfl rfl rfl)) ?_
            refine a_op rfl (o_mv rfl) ?_
            refine a_if rfl (o_eq rfl rfl) (fun h115 => ?_) (fun h116 => ?_)
            · refine a_op rfl (o_mv rfl) ?_
              refine a_op rfl ((by first | exact o_fa tf30_3 rfl rfl | exact o_fap tf30_3 rfl rfl)) ?_
              refine a_op rfl ((by first | exact o_ld tg28 rfl rfl | exact o_ldp tg28 rfl rfl rfl rfl)) ?_
              refine a_op rfl (o_mv rfl) ?_
              refine a_op rfl (o_ix te28 tn39 rfl rfl hje (ixm _ _ _ hjj)) ?_
              refine a_op rfl ((by first | exact o_fa tf39_2 rfl rfl | exact o_fap tf39_2 rfl rfl)) ?_
              refine a_op rfl ((by first | exact o_ld tg3 rfl rfl | exact o_ldp tg3 rfl rfl rfl rfl)) ?_
              refine a_if rfl (o_eq rfl rfl) (fun h117 => ?_) (fun h118 => ?_)
              · refine a_op rfl (o_pkt rfl rfl) ?_
                refine a_nil ?_
                refine tq_n ?_
                refine w_true rfl ?_
                refine awp_seq ?_
                refine w_reg (l := r54_28.toList) rfl r54_28_ok ?_
                refine a_op rfl (o_as rfl) ?_
                refine a_op rfl (o_as rfl) ?_
                refine a_nil ?_
                refine tq_n ?_
                refine awp_ret ?_
                refine bq_r ?_
                refine tq_r ?_
                refine tq_r ?_
                refine bq_r ?_
                refine tq_r ?_
                refine r_tup (xs := []) rfl ⟨rfl, rfl, trivial⟩ ?_
                have hv : stV pts rules hol n day = 2 := by
                  rw [stV_eq hw0 hjf kA (by omega), if_neg (by rw [hVk]; decide), if_pos (.inr (.inr ⟨by assumption, by rw [← (show hol[kB]'hB2 = day by assumption)]; exact List.getElem_mem hB2⟩))]
                exact rs_tup ⟨rs_int (by rw [hv]), rs_int (by first | rfl | omega), trivial⟩
              refine a_op rfl (o_pkt rfl rfl) ?_
              refine a_nil ?_
              refine tq_n ?_
              refine w_false rfl ?_
              refine awp_skip ?_
              refine bq_n ?_
              refine tq_n ?_
              refine w_reg (l := r54_26.toList) rfl r54_26_ok ?_
              refine a_op rfl (o_mv rfl) ?_
              refine a_op rfl (o_add rfl rfl (by simp only [klo, khi]; omega)) ?_
              refine a_op rfl (o_as rfl) ?_
              refine a_nil ?_
              refine tq_n ?_
              exact ⟨kB + 1, ⟨⟨by omega, hol_next hB2 hhB (by first | (intro h; exact absurd h (by omega)) | (intro _; simp_all))⟩, by omega⟩, ⟨(by first | exact sub_int rfl (by omega) | rfl | exact sub_eq rfl (by rw [fB_succ hA2]; simp [rV, rN, rK, sel, seaB, vacB, wek_and hxk.2.2.1 hxk.2.2.2, *] <;> omega)), (by first | exact sub_int rfl (by omega) | rfl | exact sub_eq rfl (by rw [fB_succ hA2]; simp [rV, rN, rK, sel, seaB, vacB, wek_and hxk.2.2.1 hxk.2.2.2, *] <;> omega)), (by first | exact sub_int rfl (by omega) | rfl | exact sub_eq rfl (by rw [fB_succ hA2]; simp [rV, rN, rK, sel, seaB, vacB, wek_and hxk.2.2.1 hxk.2.2.2, *] <;> omega)), (by first | exact sub_int rfl (by omega) | rfl | exact sub_eq rfl (by rw [fB_succ hA2]; simp [rV, rN, rK, sel, seaB, vacB, wek_and hxk.2.2.1 hxk.2.2.2, *] <;> omega)), (by first | exact sub_int rfl (by omega) | rfl | exact sub_eq rfl (by rw [fB_succ hA2]; simp [rV, rN, rK, sel, seaB, vacB, wek_and hxk.2.2.1 hxk.2.2.2, *] <;> omega)), (by first | exact sub_int rfl (by omega) | rfl | exact sub_eq rfl (by rw [fB_succ hA2]; simp [rV, rN, rK, sel, seaB, vacB, wek_and hxk.2.2.1 hxk.2.2.2, *] <;> omega)), (by first | exact sub_int rfl (by omega) | rfl | exact sub_eq rfl (by rw [fB_succ hA2]; simp [rV, rN, rK, sel, seaB, vacB, wek_and hxk.2.2.1 hxk.2.2.2, *] <;> omega)), (by first | exact sub_int rfl (by omega) | rfl | exact sub_eq rfl (by rw [fB_succ hA2]; simp [rV, rN, rK, sel, seaB, vacB, wek_and hxk.2.2.1 hxk.2.2.2, *] <;> omega)), (by first | exact sub_int rfl (by omega) | rfl | exact sub_eq rfl (by rw [fB_succ hA2]; simp [rV, rN, rK, sel, seaB, vacB, wek_and hxk.2.2.1 hxk.2.2.2, *] <;> omega)), (by first | exact sub_int rfl (by omega) | rfl | exact sub_eq rfl (by rw [fB_succ hA2]; simp [rV, rN, rK, sel, seaB, vacB, wek_and hxk.2.2.1 hxk.2.2.2, *] <;> omega)), (by first | exact sub_int rfl (by omega) | rfl | exact sub_eq rfl (by rw [fB_succ hA2]; simp [rV, rN, rK, sel, seaB, vacB, wek_and hxk.2.2.1 hxk.2.2.2, *] <;> omega)), trivial⟩, rfl⟩
            refine a_op rfl (o_mv rfl) ?_
            refine a_off rfl ?_
            refine a_off rfl ?_
            refine a_off rfl ?_
            refine a_off rfl ?_
            refine a_off rfl ?_
            refine a_off rfl ?_
            refine a_off rfl ?_
            refine a_op rfl (o_pkf rfl rfl) ?_
            refine a_nil ?_
            refine tq_n ?_
            refine w_false rfl ?_
            refine awp_skip ?_
            refine bq_n ?_
            refine tq_n ?_
            refine w_reg (l := r54_26.toList) rfl r54_26_ok ?_
            refine a_op rfl (o_mv rfl) ?_
            refine a_op rfl (o_add rfl rfl (by simp only [klo, khi]; omega)) ?_
            refine a_op rfl (o_as rfl) ?_
            refine a_nil ?_
            refine tq_n ?_
            exact ⟨kB + 1, ⟨⟨by omega, hol_next hB2 hhB (by first | (intro h; exact absurd h (by omega)) | (intro _; simp_all))⟩, by omega⟩, ⟨(by first | exact sub_int rfl (by omega) | rfl | exact sub_eq rfl (by rw [fB_succ hA2]; simp [rV, rN, rK, sel, seaB, vacB, wek_and hxk.2.2.1 hxk.2.2.2, *] <;> omega)), (by first | exact sub_int rfl (by omega) | rfl | exact sub_eq rfl (by rw [fB_succ hA2]; simp [rV, rN, rK, sel, seaB, vacB, wek_and hxk.2.2.1 hxk.2.2.2, *] <;> omega)), (by first | exact sub_int rfl (by omega) | rfl | exact sub_eq rfl (by rw [fB_succ hA2]; simp [rV, rN, rK, sel, seaB, vacB, wek_and hxk.2.2.1 hxk.2.2.2, *] <;> omega)), (by first | exact sub_int rfl (by omega) | rfl | exact sub_eq rfl (by rw [fB_succ hA2]; simp [rV, rN, rK, sel, seaB, vacB, wek_and hxk.2.2.1 hxk.2.2.2, *] <;> omega)), (by first | exact sub_int rfl (by omega) | rfl | exact sub_eq rfl (by rw [fB_succ hA2]; simp [rV, rN, rK, sel, seaB, vacB, wek_and hxk.2.2.1 hxk.2.2.2, *] <;> omega)), (by first | exact sub_int rfl (by omega) | rfl | exact sub_eq rfl (by rw [fB_succ hA2]; simp [rV, rN, rK, sel, seaB, vacB, wek_and hxk.2.2.1 hxk.2.2.2, *] <;> omega)), (by first | exact sub_int rfl (by omega) | rfl | exact sub_eq rfl (by rw [fB_succ hA2]; simp [rV, rN, rK, sel, seaB, vacB, wek_and hxk.2.2.1 hxk.2.2.2, *] <;> omega)), (by first | exact sub_int rfl (by omega) | rfl | exact sub_eq rfl (by rw [fB_succ hA2]; simp [rV, rN, rK, sel, seaB, vacB, wek_and hxk.2.2.1 hxk.2.2.2, *] <;> omega)), (by first | exact sub_int rfl (by omega) | rfl | exact sub_eq rfl (by rw [fB_succ hA2]; simp [rV, rN, rK, sel, seaB, vacB, wek_and hxk.2.2.1 hxk.2.2.2, *] <;> omega)), (by first | exact sub_int rfl (by omega) | rfl | exact sub_eq rfl (by rw [fB_succ hA2]; simp [rV, rN, rK, sel, seaB, vacB, wek_and hxk.2.2.1 hxk.2.2.2, *] <;> omega)), (by first | exact sub_int rfl (by omega) | rfl | exact sub_eq rfl (by rw [fB_succ hA2]; simp [rV, rN, rK, sel, seaB, vacB, wek_and hxk.2.2.1 hxk.2.2.2, *] <;> omega)), trivial⟩, rfl⟩
          refine a_nil ?_
          refine tq_n ?_
          refine w_false rfl ?_
          refine awp_exit ?_
          refine tq_x ?_
          refine tq_x ?_
          refine bq_hit ?_
          refine tq_n ?_
          refine awp_seq ?_
          refine w_reg (l := r54_29.toList) rfl r54_29_ok ?_
          refine a_op rfl (o_as rfl) ?_
          refine a_op rfl (o_as rfl) ?_
          refine a_nil ?_
          refine tq_n ?_
          refine awp_ret ?_
          refine r_tup (xs := []) rfl ⟨rfl, rfl, trivial⟩ ?_
          have hv : stV pts rules hol n day = 1 := by
            rw [stV_eq hw0 hjf kA (by omega), if_neg (by rw [hVk]; decide), if_neg]
            rintro (h | h | h)
            · rcases hno with h0 | h0 <;> simp_all
            · rcases hno2 with h0 | h0 <;> simp_all
            · exact hhB day (by rw [List.take_of_length_le (by omega)]; exact h.2) rfl h.1
          exact rs_tup ⟨rs_int (by rw [hv]), rs_int (by first | rfl | omega), trivial⟩
        refine a_op rfl (o_ntf rfl) ?_
        refine a_op rfl (o_pkt rfl rfl) ?_
        refine a_op rfl (o_pkf rfl rfl) ?_
        refine a_nil ?_
        refine tq_n ?_
        refine w_true rfl ?_
        refine awp_seq ?_
        refine w_reg (l := r54_23.toList) rfl r54_23_ok ?_
        refine a_op rfl (o_as rfl) ?_
        refine a_op rfl (o_as rfl) ?_
        refine a_nil ?_
        refine tq_n ?_
        refine awp_ret ?_
        refine tq_r ?_
        refine r_tup (xs := []) rfl ⟨rfl, rfl, trivial⟩ ?_
        have hv : stV pts rules hol n day = 2 := by rw [stV_eq hw0 hjf kA (by omega), if_neg (by rw [hVk]; decide), if_pos (by first | exact .inl ⟨by assumption, by assumption⟩ | exact .inr (.inl ⟨by assumption, by assumption⟩))]
        exact rs_tup ⟨rs_int (by rw [hv]), rs_int (by first | rfl | omega), trivial⟩
      refine a_op rfl (o_mv rfl) ?_
      refine a_off rfl ?_
      refine a_off rfl ?_
      refine a_op rfl (o_pkf rfl rfl) ?_
      refine a_op rfl (o_pkf rfl rfl) ?_
      refine a_nil ?_
      refine tq_n ?_
      refine w_false rfl ?_
      refine awp_skip ?_
      refine tq_n ?_
      refine awp_seq ?_
      refine awp_seq ?_
      have hno : fB (sel n 1) rules kA = false ∨ fB (rN n day) rules kA = true := by first | exact .inl (by assumption) | exact .inr (by assumption)
      have hno2 : fB (sel n 3) rules kA = false ∨ fB (rK n day) rules kA = true := by first | exact .inl (by assumption) | exact .inr (by assumption)
      refine w_reg (l := r54_24.toList) rfl r54_24_ok ?_
      refine a_op rfl (o_as rfl) ?_
      refine a_nil ?_
      refine tq_n ?_
      refine awp_block ?_
      refine w_loop (fun k : Nat => k ≤ hol.length ∧ ∀ y ∈ hol.take k, y = day → ¬ (pts[jj]'hjj).street = 0) (fun k => [(1, .sl 5 b1 (rules.map ruleAV)), (2, .sl 1 b2 (hol.map intAV)), (3, .raw (.int .i64 n)), (4, .raw (.int .i64 day)), (5, .ptr 0 0), (13, .raw (.int .i64 (ixf n pts 0))), (14, .raw (.bool (fB (sel n 1) rules (kA)))), (15, .raw (.bool (fB (rN n day) rules (kA)))), (16, .raw (.bool (fB (sel n 3) rules (kA)))), (17, .raw (.bool (fB (rK n day) rules (kA)))), (22, .raw (.int .i64 ((k : Nat) : Int)))]) (fun _ => [.var [a1, a2, a3, .sl 8 b (pts.map ptAV)]]) (fun k => hol.length - k) (0) ⟨by omega, by simp⟩ ⟨(by first | exact sub_int rfl (by omega) | rfl | exact sub_eq rfl (by rw [fB_succ hA2]; simp [rV, rN, rK, sel, seaB, vacB, wek_and hxk.2.2.1 hxk.2.2.2, *] <;> omega)), (by first | exact sub_int rfl (by omega) | rfl | exact sub_eq rfl (by rw [fB_succ hA2]; simp [rV, rN, rK, sel, seaB, vacB, wek_and hxk.2.2.1 hxk.2.2.2, *] <;> omega)), (by first | exact sub_int rfl (by omega) | rfl | exact sub_eq rfl (by rw [fB_succ hA2]; simp [rV, rN, rK, sel, seaB, vacB, wek_and hxk.2.2.1 hxk.2.2.2, *] <;> omega)), (by first | exact sub_int rfl (by omega) | rfl | exact sub_eq rfl (by rw [fB_succ hA2]; simp [rV, rN, rK, sel, seaB, vacB, wek_and hxk.2.2.1 hxk.2.2.2, *] <;> omega)), (by first | exact sub_int rfl (by omega) | rfl | exact sub_eq rfl (by rw [fB_succ hA2]; simp [rV, rN, rK, sel, seaB, vacB, wek_and hxk.2.2.1 hxk.2.2.2, *] <;> omega)), (by first | exact sub_int rfl (by omega) | rfl | exact sub_eq rfl (by rw [fB_succ hA2]; simp [rV, rN, rK, sel, seaB, vacB, wek_and hxk.2.2.1 hxk.2.2.2, *] <;> omega)), (by first | exact sub_int rfl (by omega) | rfl | exact sub_eq rfl (by rw [fB_succ hA2]; simp [rV, rN, rK, sel, seaB, vacB, wek_and hxk.2.2.1 hxk.2.2.2, *] <;> omega)), (by first | exact sub_int rfl (by omega) | rfl | exact sub_eq rfl (by rw [fB_succ hA2]; simp [rV, rN, rK, sel, seaB, vacB, wek_and hxk.2.2.1 hxk.2.2.2, *] <;> omega)), (by first | exact sub_int rfl (by omega) | rfl | exact sub_eq rfl (by rw [fB_succ hA2]; simp [rV, rN, rK, sel, seaB, vacB, wek_and hxk.2.2.1 hxk.2.2.2, *] <;> omega)), (by first | exact sub_int rfl (by omega) | rfl | exact sub_eq rfl (by rw [fB_succ hA2]; simp [rV, rN, rK, sel, seaB, vacB, wek_and hxk.2.2.1 hxk.2.2.2, *] <;> omega)), (by first | exact sub_int rfl (by omega) | rfl | exact sub_eq rfl (by rw [fB_succ hA2]; simp [rV, rN, rK, sel, seaB, vacB, wek_and hxk.2.2.1 hxk.2.2.2, *] <;> omega)), trivial⟩ rfl ?_
      intro kB ⟨hB, hhB⟩
      unfold b54_1
      refine awp_seq ?_
      refine awp_seq ?_
      refine w_reg (l := r54_25.toList) rfl r54_25_ok ?_
      refine a_op rfl (o_mv rfl) ?_
      refine a_op rfl (o_mv rfl) ?_
      refine a_op rfl (o_len rfl rfl (by first | exact List.length_map .. | rfl) tl34) ?_
      refine a_if rfl (o_lt rfl rfl) (fun h119 => ?_) (fun h120 => ?_)
      · refine a_nil ?_
        refine tq_n ?_
        refine w_true rfl ?_
        refine awp_skip ?_
        refine tq_n ?_
        refine awp_seq ?_
        refine awp_block ?_
        refine awp_seq ?_
        have hB2 : kB < hol.length := by omega
        refine w_reg (l := r54_27.toList) rfl r54_27_ok ?_
        refine a_op rfl (o_mv rfl) ?_
        refine a_op rfl (o_mv rfl) ?_
        refine a_op rfl (o_ix te34 tn3 rfl rfl rfl (ixm _ _ _ hB2)) ?_
        refine a_op rfl ((by first | exact o_ld tg3 rfl rfl | exact o_ldp tg3 rfl rfl rfl rfl)) ?_
        refine a_op rfl (o_mv rfl) ?_
        refine a_if rfl (o_eq rfl rfl) (fun h121 => ?_) (fun h122 => ?_)
        · refine a_op rfl (o_mv rfl) ?_
          refine a_op rfl ((by first | exact o_fa tf30_3 rfl rfl | exact o_fap tf30_3 rfl rfl)) ?_
          refine a_op rfl ((by first | exact o_ld tg28 rfl rfl | exact o_ldp tg28 rfl rfl rfl rfl)) ?_
          refine a_op rfl (o_mv rfl) ?_
          refine a_op rfl (o_ix te28 tn39 rfl rfl hje (ixm _ _ _ hjj)) ?_
          refine a_op rfl ((by first | exact o_fa tf39_2 rfl rfl | exact o_fap tf39_2 rfl rfl)) ?_
          refine a_op rfl ((by first | exact o_ld tg3 rfl rfl | exact o_ldp tg3 rfl rfl rfl rfl)) ?_
          refine a_if rfl (o_eq rfl rfl) (fun h123 => ?_) (fun h124 => ?_)
          · refine a_op rfl (o_pkt rfl rfl) ?_
            refine a_nil ?_
            refine tq_n ?_
            refine w_true rfl ?_
            refine awp_seq ?_
            refine w_reg (l := r54_28.toList) rfl r54_28_ok ?_
            refine a_op rfl (o_as rfl) ?_
            refine a_op rfl (o_as rfl) ?_
            refine a_nil ?_
            refine tq_n ?_
            refine awp_ret ?_
            refine bq_r ?_
            refine tq_r ?_
            refine tq_r ?_
            refine bq_r ?_
            refine tq_r ?_
            refine r_tup (xs := []) rfl ⟨rfl, rfl, trivial⟩ ?_
            have hv : stV pts rules hol n day = 2 := by
              rw [stV_eq hw0 hjf kA (by omega), if_neg (by rw [hVk]; decide), if_pos (.inr (.inr ⟨by assumption, by rw [← (show hol[kB]'hB2 = day by assumption)]; exact List.getElem_mem hB2⟩))]
            exact rs_tup ⟨rs_int (by rw [hv]), rs_int (by first | rfl | omega), trivial⟩
          refine a_op rfl (o_pkt rfl rfl) ?_
          refine a_nil ?_
          refine tq_n ?_
          refine w_false rfl ?_
          refine awp_skip ?_
          refine bq_n ?_
          refine tq_n ?_
          refine w_reg (l := r54_26.toList) rfl r54_26_ok ?_
          refine a_op rfl (o_mv rfl) ?_
          refine a_op rfl (o_add rfl rfl (by simp only [klo, khi]; omega)) ?_
          refine a_op rfl (o_as rfl) ?_
          refine a_nil ?_
          refine tq_n ?_
          exact ⟨kB + 1, ⟨⟨by omega, hol_next hB2 hhB (by first | (intro h; exact absurd h (by omega)) | (intro _; simp_all))⟩, by omega⟩, ⟨(by first | exact sub_int rfl (by omega) | rfl | exact sub_eq rfl (by rw [fB_succ hA2]; simp [rV, rN, rK, sel, seaB, vacB, wek_and hxk.2.2.1 hxk.2.2.2, *] <;> omega)), (by first | exact sub_int rfl (by omega) | rfl | exact sub_eq rfl (by rw [fB_succ hA2]; simp [rV, rN, rK, sel, seaB, vacB, wek_and hxk.2.2.1 hxk.2.2.2, *] <;> omega)), (by first | exact sub_int rfl (by omega) | rfl | exact sub_eq rfl (by rw [fB_succ hA2]; simp [rV, rN, rK, sel, seaB, vacB, wek_and hxk.2.2.1 hxk.2.2.2, *] <;> omega)), (by first | exact sub_int rfl (by omega) | rfl | exact sub_eq rfl (by rw [fB_succ hA2]; simp [rV, rN, rK, sel, seaB, vacB, wek_and hxk.2.2.1 hxk.2.2.2, *] <;> omega)), (by first | exact sub_int rfl (by omega) | rfl | exact sub_eq rfl (by rw [fB_succ hA2]; simp [rV, rN, rK, sel, seaB, vacB, wek_and hxk.2.2.1 hxk.2.2.2, *] <;> omega)), (by first | exact sub_int rfl (by omega) | rfl | exact sub_eq rfl (by rw [fB_succ hA2]; simp [rV, rN, rK, sel, seaB, vacB, wek_and hxk.2.2.1 hxk.2.2.2, *] <;> omega)), (by first | exact sub_int rfl (by omega) | rfl | exact sub_eq rfl (by rw [fB_succ hA2]; simp [rV, rN, rK, sel, seaB, vacB, wek_and hxk.2.2.1 hxk.2.2.2, *] <;> omega)), (by first | exact sub_int rfl (by omega) | rfl | exact sub_eq rfl (by rw [fB_succ hA2]; simp [rV, rN, rK, sel, seaB, vacB, wek_and hxk.2.2.1 hxk.2.2.2, *] <;> omega)), (by first | exact sub_int rfl (by omega) | rfl | exact sub_eq rfl (by rw [fB_succ hA2]; simp [rV, rN, rK, sel, seaB, vacB, wek_and hxk.2.2.1 hxk.2.2.2, *] <;> omega)), (by first | exact sub_int rfl (by omega) | rfl | exact sub_eq rfl (by rw [fB_succ hA2]; simp [rV, rN, rK, sel, seaB, vacB, wek_and hxk.2.2.1 hxk.2.2.2, *] <;> omega)), (by first | exact sub_int rfl (by omega) | rfl | exact sub_eq rfl (by rw [fB_succ hA2]; simp [rV, rN, rK, sel, seaB, vacB, wek_and hxk.2.2.1 hxk.2.2.2, *] <;> omega)), trivial⟩, rfl⟩
        refine a_op rfl (o_mv rfl) ?_
        refine a_off rfl ?_
        refine a_off rfl ?_
        refine a_off rfl ?_
        refine a_off rfl ?_
        refine a_off rfl ?_
        refine a_off rfl ?_
        refine a_off rfl ?_
        refine a_op rfl (o_pkf rfl rfl) ?_
        refine a_nil ?_
        refine tq_n ?_
        refine w_false rfl ?_
        refine awp_skip ?_
        refine bq_n ?_
        refine tq_n ?_
        refine w_reg (l := r54_26.toList) rfl r54_26_ok ?_
        refine a_op rfl (o_mv rfl) ?_
        refine a_op rfl (o_add rfl rfl (by simp only [klo, khi]; omega)) ?_
        refine a_op rfl (o_as rfl) ?_
        refine a_nil ?_
        refine tq_n ?_
        exact ⟨kB + 1, ⟨⟨by omega, hol_next hB2 hhB (by first | (intro h; exact absurd h (by omega)) | (intro _; simp_all))⟩, by omega⟩, ⟨(by first | exact sub_int rfl (by omega) | rfl | exact sub_eq rfl (by rw [fB_succ hA2]; simp [rV, rN, rK, sel, seaB, vacB, wek_and hxk.2.2.1 hxk.2.2.2, *] <;> omega)), (by first | exact sub_int rfl (by omega) | rfl | exact sub_eq rfl (by rw [fB_succ hA2]; simp [rV, rN, rK, sel, seaB, vacB, wek_and hxk.2.2.1 hxk.2.2.2, *] <;> omega)), (by first | exact sub_int rfl (by omega) | rfl | exact sub_eq rfl (by rw [fB_succ hA2]; simp [rV, rN, rK, sel, seaB, vacB, wek_and hxk.2.2.1 hxk.2.2.2, *] <;> omega)), (by first | exact sub_int rfl (by omega) | rfl | exact sub_eq rfl (by rw [fB_succ hA2]; simp [rV, rN, rK, sel, seaB, vacB, wek_and hxk.2.2.1 hxk.2.2.2, *] <;> omega)), (by first | exact sub_int rfl (by omega) | rfl | exact sub_eq rfl (by rw [fB_succ hA2]; simp [rV, rN, rK, sel, seaB, vacB, wek_and hxk.2.2.1 hxk.2.2.2, *] <;> omega)), (by first | exact sub_int rfl (by omega) | rfl | exact sub_eq rfl (by rw [fB_succ hA2]; simp [rV, rN, rK, sel, seaB, vacB, wek_and hxk.2.2.1 hxk.2.2.2, *] <;> omega)), (by first | exact sub_int rfl (by omega) | rfl | exact sub_eq rfl (by rw [fB_succ hA2]; simp [rV, rN, rK, sel, seaB, vacB, wek_and hxk.2.2.1 hxk.2.2.2, *] <;> omega)), (by first | exact sub_int rfl (by omega) | rfl | exact sub_eq rfl (by rw [fB_succ hA2]; simp [rV, rN, rK, sel, seaB, vacB, wek_and hxk.2.2.1 hxk.2.2.2, *] <;> omega)), (by first | exact sub_int rfl (by omega) | rfl | exact sub_eq rfl (by rw [fB_succ hA2]; simp [rV, rN, rK, sel, seaB, vacB, wek_and hxk.2.2.1 hxk.2.2.2, *] <;> omega)), (by first | exact sub_int rfl (by omega) | rfl | exact sub_eq rfl (by rw [fB_succ hA2]; simp [rV, rN, rK, sel, seaB, vacB, wek_and hxk.2.2.1 hxk.2.2.2, *] <;> omega)), (by first | exact sub_int rfl (by omega) | rfl | exact sub_eq rfl (by rw [fB_succ hA2]; simp [rV, rN, rK, sel, seaB, vacB, wek_and hxk.2.2.1 hxk.2.2.2, *] <;> omega)), trivial⟩, rfl⟩
      refine a_nil ?_
      refine tq_n ?_
      refine w_false rfl ?_
      refine awp_exit ?_
      refine tq_x ?_
      refine tq_x ?_
      refine bq_hit ?_
      refine tq_n ?_
      refine awp_seq ?_
      refine w_reg (l := r54_29.toList) rfl r54_29_ok ?_
      refine a_op rfl (o_as rfl) ?_
      refine a_op rfl (o_as rfl) ?_
      refine a_nil ?_
      refine tq_n ?_
      refine awp_ret ?_
      refine r_tup (xs := []) rfl ⟨rfl, rfl, trivial⟩ ?_
      have hv : stV pts rules hol n day = 1 := by
        rw [stV_eq hw0 hjf kA (by omega), if_neg (by rw [hVk]; decide), if_neg]
        rintro (h | h | h)
        · rcases hno with h0 | h0 <;> simp_all
        · rcases hno2 with h0 | h0 <;> simp_all
        · exact hhB day (by rw [List.take_of_length_le (by omega)]; exact h.2) rfl h.1
      exact rs_tup ⟨rs_int (by rw [hv]), rs_int (by first | rfl | omega), trivial⟩
    refine a_op rfl (o_ntf rfl) ?_
    refine a_op rfl (o_pkt rfl rfl) ?_
    refine a_op rfl (o_mv rfl) ?_
    refine a_off rfl ?_
    refine a_off rfl ?_
    refine a_off rfl ?_
    refine a_off rfl ?_
    refine a_off rfl ?_
    refine a_op rfl (o_pkt rfl rfl) ?_
    refine a_nil ?_
    refine tq_n ?_
    refine w_true rfl ?_
    refine awp_seq ?_
    refine w_reg (l := r54_23.toList) rfl r54_23_ok ?_
    refine a_op rfl (o_as rfl) ?_
    refine a_op rfl (o_as rfl) ?_
    refine a_nil ?_
    refine tq_n ?_
    refine awp_ret ?_
    refine tq_r ?_
    refine r_tup (xs := []) rfl ⟨rfl, rfl, trivial⟩ ?_
    have hv : stV pts rules hol n day = 2 := by rw [stV_eq hw0 hjf kA (by omega), if_neg (by rw [hVk]; decide), if_pos (by first | exact .inl ⟨by assumption, by assumption⟩ | exact .inr (.inl ⟨by assumption, by assumption⟩))]
    exact rs_tup ⟨rs_int (by rw [hv]), rs_int (by first | rfl | omega), trivial⟩
  refine a_op rfl (o_mv rfl) ?_
  refine a_off rfl ?_
  refine a_off rfl ?_
  refine a_op rfl (o_pkf rfl rfl) ?_
  refine a_op rfl (o_mv rfl) ?_
  refine a_ifb rfl (o_mv rfl) (fun h125 => ?_) (fun h126 => ?_)
  · refine a_op rfl (o_mv rfl) ?_
    refine a_ifb rfl (o_mv rfl) (fun h127 => ?_) (fun h128 => ?_)
    · refine a_op rfl (o_ntt rfl) ?_
      refine a_op rfl (o_pkt rfl rfl) ?_
      refine a_op rfl (o_pkf rfl rfl) ?_
      refine a_nil ?_
      refine tq_n ?_
      refine w_false rfl ?_
      refine awp_skip ?_
      refine tq_n ?_
      refine awp_seq ?_
      refine awp_seq ?_
      have hno : fB (sel n 1) rules kA = false ∨ fB (rN n day) rules kA = true := by first | exact .inl (by assumption) | exact .inr (by assumption)
      have hno2 : fB (sel n 3) rules kA = false ∨ fB (rK n day) rules kA = true := by first | exact .inl (by assumption) | exact .inr (by assumption)
      refine w_reg (l := r54_24.toList) rfl r54_24_ok ?_
      refine a_op rfl (o_as rfl) ?_
      refine a_nil ?_
      refine tq_n ?_
      refine awp_block ?_
      refine w_loop (fun k : Nat => k ≤ hol.length ∧ ∀ y ∈ hol.take k, y = day → ¬ (pts[jj]'hjj).street = 0) (fun k => [(1, .sl 5 b1 (rules.map ruleAV)), (2, .sl 1 b2 (hol.map intAV)), (3, .raw (.int .i64 n)), (4, .raw (.int .i64 day)), (5, .ptr 0 0), (13, .raw (.int .i64 (ixf n pts 0))), (14, .raw (.bool (fB (sel n 1) rules (kA)))), (15, .raw (.bool (fB (rN n day) rules (kA)))), (16, .raw (.bool (fB (sel n 3) rules (kA)))), (17, .raw (.bool (fB (rK n day) rules (kA)))), (22, .raw (.int .i64 ((k : Nat) : Int)))]) (fun _ => [.var [a1, a2, a3, .sl 8 b (pts.map ptAV)]]) (fun k => hol.length - k) (0) ⟨by omega, by simp⟩ ⟨(by first | exact sub_int rfl (by omega) | rfl | exact sub_eq rfl (by rw [fB_succ hA2]; simp [rV, rN, rK, sel, seaB, vacB, wek_and hxk.2.2.1 hxk.2.2.2, *] <;> omega)), (by first | exact sub_int rfl (by omega) | rfl | exact sub_eq rfl (by rw [fB_succ hA2]; simp [rV, rN, rK, sel, seaB, vacB, wek_and hxk.2.2.1 hxk.2.2.2, *] <;> omega)), (by first | exact sub_int rfl (by omega) | rfl | exact sub_eq rfl (by rw [fB_succ hA2]; simp [rV, rN, rK, sel, seaB, vacB, wek_and hxk.2.2.1 hxk.2.2.2, *] <;> omega)), (by first | exact sub_int rfl (by omega) | rfl | exact sub_eq rfl (by rw [fB_succ hA2]; simp [rV, rN, rK, sel, seaB, vacB, wek_and hxk.2.2.1 hxk.2.2.2, *] <;> omega)), (by first | exact sub_int rfl (by omega) | rfl | exact sub_eq rfl (by rw [fB_succ hA2]; simp [rV, rN, rK, sel, seaB, vacB, wek_and hxk.2.2.1 hxk.2.2.2, *] <;> omega)), (by first | exact sub_int rfl (by omega) | rfl | exact sub_eq rfl (by rw [fB_succ hA2]; simp [rV, rN, rK, sel, seaB, vacB, wek_and hxk.2.2.1 hxk.2.2.2, *] <;> omega)), (by first | exact sub_int rfl (by omega) | rfl | exact sub_eq rfl (by rw [fB_succ hA2]; simp [rV, rN, rK, sel, seaB, vacB, wek_and hxk.2.2.1 hxk.2.2.2, *] <;> omega)), (by first | exact sub_int rfl (by omega) | rfl | exact sub_eq rfl (by rw [fB_succ hA2]; simp [rV, rN, rK, sel, seaB, vacB, wek_and hxk.2.2.1 hxk.2.2.2, *] <;> omega)), (by first | exact sub_int rfl (by omega) | rfl | exact sub_eq rfl (by rw [fB_succ hA2]; simp [rV, rN, rK, sel, seaB, vacB, wek_and hxk.2.2.1 hxk.2.2.2, *] <;> omega)), (by first | exact sub_int rfl (by omega) | rfl | exact sub_eq rfl (by rw [fB_succ hA2]; simp [rV, rN, rK, sel, seaB, vacB, wek_and hxk.2.2.1 hxk.2.2.2, *] <;> omega)), (by first | exact sub_int rfl (by omega) | rfl | exact sub_eq rfl (by rw [fB_succ hA2]; simp [rV, rN, rK, sel, seaB, vacB, wek_and hxk.2.2.1 hxk.2.2.2, *] <;> omega)), trivial⟩ rfl ?_
      intro kB ⟨hB, hhB⟩
      unfold b54_1
      refine awp_seq ?_
      refine awp_seq ?_
      refine w_reg (l := r54_25.toList) rfl r54_25_ok ?_
      refine a_op rfl (o_mv rfl) ?_
      refine a_op rfl (o_mv rfl) ?_
      refine a_op rfl (o_len rfl rfl (by first | exact List.length_map .. | rfl) tl34) ?_
      refine a_if rfl (o_lt rfl rfl) (fun h129 => ?_) (fun h130 => ?_)
      · refine a_nil ?_
        refine tq_n ?_
        refine w_true rfl ?_
        refine awp_skip ?_
        refine tq_n ?_
        refine awp_seq ?_
        refine awp_block ?_
        refine awp_seq ?_
        have hB2 : kB < hol.length := by omega
        refine w_reg (l := r54_27.toList) rfl r54_27_ok ?_
        refine a_op rfl (o_mv rfl) ?_
        refine a_op rfl (o_mv rfl) ?_
        refine a_op rfl (o_ix te34 tn3 rfl rfl rfl (ixm _ _ _ hB2)) ?_
        refine a_op rfl ((by first | exact o_ld tg3 rfl rfl | exact o_ldp tg3 rfl rfl rfl rfl)) ?_
        refine a_op rfl (o_mv rfl) ?_
        refine a_if rfl (o_eq rfl rfl) (fun h131 => ?_) (fun h132 => ?_)
        · refine a_op rfl (o_mv rfl) ?_
          refine a_op rfl ((by first | exact o_fa tf30_3 rfl rfl | exact o_fap tf30_3 rfl rfl)) ?_
          refine a_op rfl ((by first | exact o_ld tg28 rfl rfl | exact o_ldp tg28 rfl rfl rfl rfl)) ?_
          refine a_op rfl (o_mv rfl) ?_
          refine a_op rfl (o_ix te28 tn39 rfl rfl hje (ixm _ _ _ hjj)) ?_
          refine a_op rfl ((by first | exact o_fa tf39_2 rfl rfl | exact o_fap tf39_2 rfl rfl)) ?_
          refine a_op rfl ((by first | exact o_ld tg3 rfl rfl | exact o_ldp tg3 rfl rfl rfl rfl)) ?_
          refine a_if rfl (o_eq rfl rfl) (fun h133 => ?_) (fun h134 => ?_)
          · refine a_op rfl (o_pkt rfl rfl) ?_
            refine a_nil ?_
            refine tq_n ?_
            refine w_true rfl ?_
            refine awp_seq ?_
            refine w_reg (l := r54_28.toList) rfl r54_28_ok ?_
            refine a_op rfl (o_as rfl) ?_
            refine a_op rfl (o_as rfl) ?_
            refine a_nil ?_
            refine tq_n ?_
            refine awp_ret ?_
            refine bq_r ?_
            refine tq_r ?_
            refine tq_r ?_
            refine bq_r ?_
            refine tq_r ?_
            refine r_tup (xs := []) rfl ⟨rfl, rfl, trivial⟩ ?_
            have hv : stV pts rules hol n day = 2 := by
              rw [stV_eq hw0 hjf kA (by omega), if_neg (by rw [hVk]; decide), if_pos (.inr (.inr ⟨by assumption, by rw [← (show hol[kB]'hB2 = day by assumption)]; exact List.getElem_mem hB2⟩))]
            exact rs_tup ⟨rs_int (by rw [hv]), rs_int (by first | rfl | omega), trivial⟩
          refine a_op rfl (o_pkt rfl rfl) ?_
          refine a_nil ?_
          refine tq_n ?_
          refine w_false rfl ?_
          refine awp_skip ?_
          refine bq_n ?_
          refine tq_n ?_
          refine w_reg (l := r54_26.toList) rfl r54_26_ok ?_
          refine a_op rfl (o_mv rfl) ?_
          refine a_op rfl (o_add rfl rfl (by simp only [klo, khi]; omega)) ?_
          refine a_op rfl (o_as rfl) ?_
          refine a_nil ?_
          refine tq_n ?_
          exact ⟨kB + 1, ⟨⟨by omega, hol_next hB2 hhB (by first | (intro h; exact absurd h (by omega)) | (intro _; simp_all))⟩, by omega⟩, ⟨(by first | exact sub_int rfl (by omega) | rfl | exact sub_eq rfl (by rw [fB_succ hA2]; simp [rV, rN, rK, sel, seaB, vacB, wek_and hxk.2.2.1 hxk.2.2.2, *] <;> omega)), (by first | exact sub_int rfl (by omega) | rfl | exact sub_eq rfl (by rw [fB_succ hA2]; simp [rV, rN, rK, sel, seaB, vacB, wek_and hxk.2.2.1 hxk.2.2.2, *] <;> omega)), (by first | exact sub_int rfl (by omega) | rfl | exact sub_eq rfl (by rw [fB_succ hA2]; simp [rV, rN, rK, sel, seaB, vacB, wek_and hxk.2.2.1 hxk.2.2.2, *] <;> omega)), (by first | exact sub_int rfl (by omega) | rfl | exact sub_eq rfl (by rw [fB_succ hA2]; simp [rV, rN, rK, sel, seaB, vacB, wek_and hxk.2.2.1 hxk.2.2.2, *] <;> omega)), (by first | exact sub_int rfl (by omega) | rfl | exact sub_eq rfl (by rw [fB_succ hA2]; simp [rV, rN, rK, sel, seaB, vacB, wek_and hxk.2.2.1 hxk.2.2.2, *] <;> omega)), (by first | exact sub_int rfl (by omega) | rfl | exact sub_eq rfl (by rw [fB_succ hA2]; simp [rV, rN, rK, sel, seaB, vacB, wek_and hxk.2.2.1 hxk.2.2.2, *] <;> omega)), (by first | exact sub_int rfl (by omega) | rfl | exact sub_eq rfl (by rw [fB_succ hA2]; simp [rV, rN, rK, sel, seaB, vacB, wek_and hxk.2.2.1 hxk.2.2.2, *] <;> omega)), (by first | exact sub_int rfl (by omega) | rfl | exact sub_eq rfl (by rw [fB_succ hA2]; simp [rV, rN, rK, sel, seaB, vacB, wek_and hxk.2.2.1 hxk.2.2.2, *] <;> omega)), (by first | exact sub_int rfl (by omega) | rfl | exact sub_eq rfl (by rw [fB_succ hA2]; simp [rV, rN, rK, sel, seaB, vacB, wek_and hxk.2.2.1 hxk.2.2.2, *] <;> omega)), (by first | exact sub_int rfl (by omega) | rfl | exact sub_eq rfl (by rw [fB_succ hA2]; simp [rV, rN, rK, sel, seaB, vacB, wek_and hxk.2.2.1 hxk.2.2.2, *] <;> omega)), (by first | exact sub_int rfl (by omega) | rfl | exact sub_eq rfl (by rw [fB_succ hA2]; simp [rV, rN, rK, sel, seaB, vacB, wek_and hxk.2.2.1 hxk.2.2.2, *] <;> omega)), trivial⟩, rfl⟩
        refine a_op rfl (o_mv rfl) ?_
        refine a_off rfl ?_
        refine a_off rfl ?_
        refine a_off rfl ?_
        refine a_off rfl ?_
        refine a_off rfl ?_
        refine a_off rfl ?_
        refine a_off rfl ?_
        refine a_op rfl (o_pkf rfl rfl) ?_
        refine a_nil ?_
        refine tq_n ?_
        refine w_false rfl ?_
        refine awp_skip ?_
        refine bq_n ?_
        refine tq_n ?_
        refine w_reg (l := r54_26.toList) rfl r54_26_ok ?_
        refine a_op rfl (o_mv rfl) ?_
        refine a_op rfl (o_add rfl rfl (by simp only [klo, khi]; omega)) ?_
        refine a_op rfl (o_as rfl) ?_
        refine a_nil ?_
        refine tq_n ?_
        exact ⟨kB + 1, ⟨⟨by omega, hol_next hB2 hhB (by first | (intro h; exact absurd h (by omega)) | (intro _; simp_all))⟩, by omega⟩, ⟨(by first | exact sub_int rfl (by omega) | rfl | exact sub_eq rfl (by rw [fB_succ hA2]; simp [rV, rN, rK, sel, seaB, vacB, wek_and hxk.2.2.1 hxk.2.2.2, *] <;> omega)), (by first | exact sub_int rfl (by omega) | rfl | exact sub_eq rfl (by rw [fB_succ hA2]; simp [rV, rN, rK, sel, seaB, vacB, wek_and hxk.2.2.1 hxk.2.2.2, *] <;> omega)), (by first | exact sub_int rfl (by omega) | rfl | exact sub_eq rfl (by rw [fB_succ hA2]; simp [rV, rN, rK, sel, seaB, vacB, wek_and hxk.2.2.1 hxk.2.2.2, *] <;> omega)), (by first | exact sub_int rfl (by omega) | rfl | exact sub_eq rfl (by rw [fB_succ hA2]; simp [rV, rN, rK, sel, seaB, vacB, wek_and hxk.2.2.1 hxk.2.2.2, *] <;> omega)), (by first | exact sub_int rfl (by omega) | rfl | exact sub_eq rfl (by rw [fB_succ hA2]; simp [rV, rN, rK, sel, seaB, vacB, wek_and hxk.2.2.1 hxk.2.2.2, *] <;> omega)), (by first | exact sub_int rfl (by omega) | rfl | exact sub_eq rfl (by rw [fB_succ hA2]; simp [rV, rN, rK, sel, seaB, vacB, wek_and hxk.2.2.1 hxk.2.2.2, *] <;> omega)), (by first | exact sub_int rfl (by omega) | rfl | exact sub_eq rfl (by rw [fB_succ hA2]; simp [rV, rN, rK, sel, seaB, vacB, wek_and hxk.2.2.1 hxk.2.2.2, *] <;> omega)), (by first | exact sub_int rfl (by omega) | rfl | exact sub_eq rfl (by rw [fB_succ hA2]; simp [rV, rN, rK, sel, seaB, vacB, wek_and hxk.2.2.1 hxk.2.2.2, *] <;> omega)), (by first | exact sub_int rfl (by omega) | rfl | exact sub_eq rfl (by rw [fB_succ hA2]; simp [rV, rN, rK, sel, seaB, vacB, wek_and hxk.2.2.1 hxk.2.2.2, *] <;> omega)), (by first | exact sub_int rfl (by omega) | rfl | exact sub_eq rfl (by rw [fB_succ hA2]; simp [rV, rN, rK, sel, seaB, vacB, wek_and hxk.2.2.1 hxk.2.2.2, *] <;> omega)), (by first | exact sub_int rfl (by omega) | rfl | exact sub_eq rfl (by rw [fB_succ hA2]; simp [rV, rN, rK, sel, seaB, vacB, wek_and hxk.2.2.1 hxk.2.2.2, *] <;> omega)), trivial⟩, rfl⟩
      refine a_nil ?_
      refine tq_n ?_
      refine w_false rfl ?_
      refine awp_exit ?_
      refine tq_x ?_
      refine tq_x ?_
      refine bq_hit ?_
      refine tq_n ?_
      refine awp_seq ?_
      refine w_reg (l := r54_29.toList) rfl r54_29_ok ?_
      refine a_op rfl (o_as rfl) ?_
      refine a_op rfl (o_as rfl) ?_
      refine a_nil ?_
      refine tq_n ?_
      refine awp_ret ?_
      refine r_tup (xs := []) rfl ⟨rfl, rfl, trivial⟩ ?_
      have hv : stV pts rules hol n day = 1 := by
        rw [stV_eq hw0 hjf kA (by omega), if_neg (by rw [hVk]; decide), if_neg]
        rintro (h | h | h)
        · rcases hno with h0 | h0 <;> simp_all
        · rcases hno2 with h0 | h0 <;> simp_all
        · exact hhB day (by rw [List.take_of_length_le (by omega)]; exact h.2) rfl h.1
      exact rs_tup ⟨rs_int (by rw [hv]), rs_int (by first | rfl | omega), trivial⟩
    refine a_op rfl (o_ntf rfl) ?_
    refine a_op rfl (o_pkt rfl rfl) ?_
    refine a_op rfl (o_pkf rfl rfl) ?_
    refine a_nil ?_
    refine tq_n ?_
    refine w_true rfl ?_
    refine awp_seq ?_
    refine w_reg (l := r54_23.toList) rfl r54_23_ok ?_
    refine a_op rfl (o_as rfl) ?_
    refine a_op rfl (o_as rfl) ?_
    refine a_nil ?_
    refine tq_n ?_
    refine awp_ret ?_
    refine tq_r ?_
    refine r_tup (xs := []) rfl ⟨rfl, rfl, trivial⟩ ?_
    have hv : stV pts rules hol n day = 2 := by rw [stV_eq hw0 hjf kA (by omega), if_neg (by rw [hVk]; decide), if_pos (by first | exact .inl ⟨by assumption, by assumption⟩ | exact .inr (.inl ⟨by assumption, by assumption⟩))]
    exact rs_tup ⟨rs_int (by rw [hv]), rs_int (by first | rfl | omega), trivial⟩
  refine a_op rfl (o_mv rfl) ?_
  refine a_off rfl ?_
  refine a_off rfl ?_
  refine a_op rfl (o_pkf rfl rfl) ?_
  refine a_op rfl (o_pkf rfl rfl) ?_
  refine a_nil ?_
  refine tq_n ?_
  refine w_false rfl ?_
  refine awp_skip ?_
  refine tq_n ?_
  refine awp_seq ?_
  refine awp_seq ?_
  have hno : fB (sel n 1) rules kA = false ∨ fB (rN n day) rules kA = true := by first | exact .inl (by assumption) | exact .inr (by assumption)
  have hno2 : fB (sel n 3) rules kA = false ∨ fB (rK n day) rules kA = true := by first | exact .inl (by assumption) | exact .inr (by assumption)
  refine w_reg (l := r54_24.toList) rfl r54_24_ok ?_
  refine a_op rfl (o_as rfl) ?_
  refine a_nil ?_
  refine tq_n ?_
  refine awp_block ?_
  refine w_loop (fun k : Nat => k ≤ hol.length ∧ ∀ y ∈ hol.take k, y = day → ¬ (pts[jj]'hjj).street = 0) (fun k => [(1, .sl 5 b1 (rules.map ruleAV)), (2, .sl 1 b2 (hol.map intAV)), (3, .raw (.int .i64 n)), (4, .raw (.int .i64 day)), (5, .ptr 0 0), (13, .raw (.int .i64 (ixf n pts 0))), (14, .raw (.bool (fB (sel n 1) rules (kA)))), (15, .raw (.bool (fB (rN n day) rules (kA)))), (16, .raw (.bool (fB (sel n 3) rules (kA)))), (17, .raw (.bool (fB (rK n day) rules (kA)))), (22, .raw (.int .i64 ((k : Nat) : Int)))]) (fun _ => [.var [a1, a2, a3, .sl 8 b (pts.map ptAV)]]) (fun k => hol.length - k) (0) ⟨by omega, by simp⟩ ⟨(by first | exact sub_int rfl (by omega) | rfl | exact sub_eq rfl (by rw [fB_succ hA2]; simp [rV, rN, rK, sel, seaB, vacB, wek_and hxk.2.2.1 hxk.2.2.2, *] <;> omega)), (by first | exact sub_int rfl (by omega) | rfl | exact sub_eq rfl (by rw [fB_succ hA2]; simp [rV, rN, rK, sel, seaB, vacB, wek_and hxk.2.2.1 hxk.2.2.2, *] <;> omega)), (by first | exact sub_int rfl (by omega) | rfl | exact sub_eq rfl (by rw [fB_succ hA2]; simp [rV, rN, rK, sel, seaB, vacB, wek_and hxk.2.2.1 hxk.2.2.2, *] <;> omega)), (by first | exact sub_int rfl (by omega) | rfl | exact sub_eq rfl (by rw [fB_succ hA2]; simp [rV, rN, rK, sel, seaB, vacB, wek_and hxk.2.2.1 hxk.2.2.2, *] <;> omega)), (by first | exact sub_int rfl (by omega) | rfl | exact sub_eq rfl (by rw [fB_succ hA2]; simp [rV, rN, rK, sel, seaB, vacB, wek_and hxk.2.2.1 hxk.2.2.2, *] <;> omega)), (by first | exact sub_int rfl (by omega) | rfl | exact sub_eq rfl (by rw [fB_succ hA2]; simp [rV, rN, rK, sel, seaB, vacB, wek_and hxk.2.2.1 hxk.2.2.2, *] <;> omega)), (by first | exact sub_int rfl (by omega) | rfl | exact sub_eq rfl (by rw [fB_succ hA2]; simp [rV, rN, rK, sel, seaB, vacB, wek_and hxk.2.2.1 hxk.2.2.2, *] <;> omega)), (by first | exact sub_int rfl (by omega) | rfl | exact sub_eq rfl (by rw [fB_succ hA2]; simp [rV, rN, rK, sel, seaB, vacB, wek_and hxk.2.2.1 hxk.2.2.2, *] <;> omega)), (by first | exact sub_int rfl (by omega) | rfl | exact sub_eq rfl (by rw [fB_succ hA2]; simp [rV, rN, rK, sel, seaB, vacB, wek_and hxk.2.2.1 hxk.2.2.2, *] <;> omega)), (by first | exact sub_int rfl (by omega) | rfl | exact sub_eq rfl (by rw [fB_succ hA2]; simp [rV, rN, rK, sel, seaB, vacB, wek_and hxk.2.2.1 hxk.2.2.2, *] <;> omega)), (by first | exact sub_int rfl (by omega) | rfl | exact sub_eq rfl (by rw [fB_succ hA2]; simp [rV, rN, rK, sel, seaB, vacB, wek_and hxk.2.2.1 hxk.2.2.2, *] <;> omega)), trivial⟩ rfl ?_
  intro kB ⟨hB, hhB⟩
  unfold b54_1
  refine awp_seq ?_
  refine awp_seq ?_
  refine w_reg (l := r54_25.toList) rfl r54_25_ok ?_
  refine a_op rfl (o_mv rfl) ?_
  refine a_op rfl (o_mv rfl) ?_
  refine a_op rfl (o_len rfl rfl (by first | exact List.length_map .. | rfl) tl34) ?_
  refine a_if rfl (o_lt rfl rfl) (fun h135 => ?_) (fun h136 => ?_)
  · refine a_nil ?_
    refine tq_n ?_
    refine w_true rfl ?_
    refine awp_skip ?_
    refine tq_n ?_
    refine awp_seq ?_
    refine awp_block ?_
    refine awp_seq ?_
    have hB2 : kB < hol.length := by omega
    refine w_reg (l := r54_27.toList) rfl r54_27_ok ?_
    refine a_op rfl (o_mv rfl) ?_
    refine a_op rfl (o_mv rfl) ?_
    refine a_op rfl (o_ix te34 tn3 rfl rfl rfl (ixm _ _ _ hB2)) ?_
    refine a_op rfl ((by first | exact o_ld tg3 rfl rfl | exact o_ldp tg3 rfl rfl rfl rfl)) ?_
    refine a_op rfl (o_mv rfl) ?_
    refine a_if rfl (o_eq rfl rfl) (fun h137 => ?_) (fun h138 => ?_)
    · refine a_op rfl (o_mv rfl) ?_
      refine a_op rfl ((by first | exact o_fa tf30_3 rfl rfl | exact o_fap tf30_3 rfl rfl)) ?_
      refine a_op rfl ((by first | exact o_ld tg28 rfl rfl | exact o_ldp tg28 rfl rfl rfl rfl)) ?_
      refine a_op rfl (o_mv rfl) ?_
      refine a_op rfl (o_ix te28 tn39 rfl rfl hje (ixm _ _ _ hjj)) ?_
      refine a_op rfl ((by first | exact o_fa tf39_2 rfl rfl | exact o_fap tf39_2 rfl rfl)) ?_
      refine a_op rfl ((by first | exact o_ld tg3 rfl rfl | exact o_ldp tg3 rfl rfl rfl rfl)) ?_
      refine a_if rfl (o_eq rfl rfl) (fun h139 => ?_) (fun h140 => ?_)
      · refine a_op rfl (o_pkt rfl rfl) ?_
        refine a_nil ?_
        refine tq_n ?_
        refine w_true rfl ?_
        refine awp_seq ?_
        refine w_reg (l := r54_28.toList) rfl r54_28_ok ?_
        refine a_op rfl (o_as rfl) ?_
        refine a_op rfl (o_as rfl) ?_
        refine a_nil ?_
        refine tq_n ?_
        refine awp_ret ?_
        refine bq_r ?_
        refine tq_r ?_
        refine tq_r ?_
        refine bq_r ?_
        refine tq_r ?_
        refine r_tup (xs := []) rfl ⟨rfl, rfl, trivial⟩ ?_
        have hv : stV pts rules hol n day = 2 := by
          rw [stV_eq hw0 hjf kA (by omega), if_neg (by rw [hVk]; decide), if_pos (.inr (.inr ⟨by assumption, by rw [← (show hol[kB]'hB2 = day by assumption)]; exact List.getElem_mem hB2⟩))]
        exact rs_tup ⟨rs_int (by rw [hv]), rs_int (by first | rfl | omega), trivial⟩
      refine a_op rfl (o_pkt rfl rfl) ?_
      refine a_nil ?_
      refine tq_n ?_
      refine w_false rfl ?_
      refine awp_skip ?_
      refine bq_n ?_
      refine tq_n ?_
      refine w_reg (l := r54_26.toList) rfl r54_26_ok ?_
      refine a_op rfl (o_mv rfl) ?_
      refine a_op rfl (o_add rfl rfl (by simp only [klo, khi]; omega)) ?_
      refine a_op rfl (o_as rfl) ?_
      refine a_nil ?_
      refine tq_n ?_
      exact ⟨kB + 1, ⟨⟨by omega, hol_next hB2 hhB (by first | (intro h; exact absurd h (by omega)) | (intro _; simp_all))⟩, by omega⟩, ⟨(by first | exact sub_int rfl (by omega) | rfl | exact sub_eq rfl (by rw [fB_succ hA2]; simp [rV, rN, rK, sel, seaB, vacB, wek_and hxk.2.2.1 hxk.2.2.2, *] <;> omega)), (by first | exact sub_int rfl (by omega) | rfl | exact sub_eq rfl (by rw [fB_succ hA2]; simp [rV, rN, rK, sel, seaB, vacB, wek_and hxk.2.2.1 hxk.2.2.2, *] <;> omega)), (by first | exact sub_int rfl (by omega) | rfl | exact sub_eq rfl (by rw [fB_succ hA2]; simp [rV, rN, rK, sel, seaB, vacB, wek_and hxk.2.2.1 hxk.2.2.2, *] <;> omega)), (by first | exact sub_int rfl (by omega) | rfl | exact sub_eq rfl (by rw [fB_succ hA2]; simp [rV, rN, rK, sel, seaB, vacB, wek_and hxk.2.2.1 hxk.2.2.2, *] <;> omega)), (by first | exact sub_int rfl (by omega) | rfl | exact sub_eq rfl (by rw [fB_succ hA2]; simp [rV, rN, rK, sel, seaB, vacB, wek_and hxk.2.2.1 hxk.2.2.2, *] <;> omega)), (by first | exact sub_int rfl (by omega) | rfl | exact sub_eq rfl (by rw [fB_succ hA2]; simp [rV, rN, rK, sel, seaB, vacB, wek_and hxk.2.2.1 hxk.2.2.2, *] <;> omega)), (by first | exact sub_int rfl (by omega) | rfl | exact sub_eq rfl (by rw [fB_succ hA2]; simp [rV, rN, rK, sel, seaB, vacB, wek_and hxk.2.2.1 hxk.2.2.2, *] <;> omega)), (by first | exact sub_int rfl (by omega) | rfl | exact sub_eq rfl (by rw [fB_succ hA2]; simp [rV, rN, rK, sel, seaB, vacB, wek_and hxk.2.2.1 hxk.2.2.2, *] <;> omega)), (by first | exact sub_int rfl (by omega) | rfl | exact sub_eq rfl (by rw [fB_succ hA2]; simp [rV, rN, rK, sel, seaB, vacB, wek_and hxk.2.2.1 hxk.2.2.2, *] <;> omega)), (by first | exact sub_int rfl (by omega) | rfl | exact sub_eq rfl (by rw [fB_succ hA2]; simp [rV, rN, rK, sel, seaB, vacB, wek_and hxk.2.2.1 hxk.2.2.2, *] <;> omega)), (by first | exact sub_int rfl (by omega) | rfl | exact sub_eq rfl (by rw [fB_succ hA2]; simp [rV, rN, rK, sel, seaB, vacB, wek_and hxk.2.2.1 hxk.2.2.2, *] <;> omega)), trivial⟩, rfl⟩
    refine a_op rfl (o_mv rfl) ?_
    refine a_off rfl ?_
    refine a_off rfl ?_
    refine a_off rfl ?_
    refine a_off rfl ?_
    refine a_off rfl ?_
    refine a_off rfl ?_
    refine a_off rfl ?_
    refine a_op rfl (o_pkf rfl rfl) ?_
    refine a_nil ?_
    refine tq_n ?_
    refine w_false rfl ?_
    refine awp_skip ?_
    refine bq_n ?_
    refine tq_n ?_
    refine w_reg (l := r54_26.toList) rfl r54_26_ok ?_
    refine a_op rfl (o_mv rfl) ?_
    refine a_op rfl (o_add rfl rfl (by simp only [klo, khi]; omega)) ?_
    refine a_op rfl (o_as rfl) ?_
    refine a_nil ?_
    refine tq_n ?_
    exact ⟨kB + 1, ⟨⟨by omega, hol_next hB2 hhB (by first | (intro h; exact absurd h (by omega)) | (intro _; simp_all))⟩, by omega⟩, ⟨(by first | exact sub_int rfl (by omega) | rfl | exact sub_eq rfl (by rw [fB_succ hA2]; simp [rV, rN, rK, sel, seaB, vacB, wek_and hxk.2.2.1 hxk.2.2.2, *] <;> omega)), (by first | exact sub_int rfl (by omega) | rfl | exact sub_eq rfl (by rw [fB_succ hA2]; simp [rV, rN, rK, sel, seaB, vacB, wek_and hxk.2.2.1 hxk.2.2.2, *] <;> omega)), (by first | exact sub_int rfl (by omega) | rfl | exact sub_eq rfl (by rw [fB_succ hA2]; simp [rV, rN, rK, sel, seaB, vacB, wek_and hxk.2.2.1 hxk.2.2.2, *] <;> omega)), (by first | exact sub_int rfl (by omega) | rfl | exact sub_eq rfl (by rw [fB_succ hA2]; simp [rV, rN, rK, sel, seaB, vacB, wek_and hxk.2.2.1 hxk.2.2.2, *] <;> omega)), (by first | exact sub_int rfl (by omega) | rfl | exact sub_eq rfl (by rw [fB_succ hA2]; simp [rV, rN, rK, sel, seaB, vacB, wek_and hxk.2.2.1 hxk.2.2.2, *] <;> omega)), (by first | exact sub_int rfl (by omega) | rfl | exact sub_eq rfl (by rw [fB_succ hA2]; simp [rV, rN, rK, sel, seaB, vacB, wek_and hxk.2.2.1 hxk.2.2.2, *] <;> omega)), (by first | exact sub_int rfl (by omega) | rfl | exact sub_eq rfl (by rw [fB_succ hA2]; simp [rV, rN, rK, sel, seaB, vacB, wek_and hxk.2.2.1 hxk.2.2.2, *] <;> omega)), (by first | exact sub_int rfl (by omega) | rfl | exact sub_eq rfl (by rw [fB_succ hA2]; simp [rV, rN, rK, sel, seaB, vacB, wek_and hxk.2.2.1 hxk.2.2.2, *] <;> omega)), (by first | exact sub_int rfl (by omega) | rfl | exact sub_eq rfl (by rw [fB_succ hA2]; simp [rV, rN, rK, sel, seaB, vacB, wek_and hxk.2.2.1 hxk.2.2.2, *] <;> omega)), (by first | exact sub_int rfl (by omega) | rfl | exact sub_eq rfl (by rw [fB_succ hA2]; simp [rV, rN, rK, sel, seaB, vacB, wek_and hxk.2.2.1 hxk.2.2.2, *] <;> omega)), (by first | exact sub_int rfl (by omega) | rfl | exact sub_eq rfl (by rw [fB_succ hA2]; simp [rV, rN, rK, sel, seaB, vacB, wek_and hxk.2.2.1 hxk.2.2.2, *] <;> omega)), trivial⟩, rfl⟩
  refine a_nil ?_
  refine tq_n ?_
  refine w_false rfl ?_
  refine awp_exit ?_
  refine tq_x ?_
  refine tq_x ?_
  refine bq_hit ?_
  refine tq_n ?_
  refine awp_seq ?_
  refine w_reg (l := r54_29.toList) rfl r54_29_ok ?_
  refine a_op rfl (o_as rfl) ?_
  refine a_op rfl (o_as rfl) ?_
  refine a_nil ?_
  refine tq_n ?_
  refine awp_ret ?_
  refine r_tup (xs := []) rfl ⟨rfl, rfl, trivial⟩ ?_
  have hv : stV pts rules hol n day = 1 := by
    rw [stV_eq hw0 hjf kA (by omega), if_neg (by rw [hVk]; decide), if_neg]
    rintro (h | h | h)
    · rcases hno with h0 | h0 <;> simp_all
    · rcases hno2 with h0 | h0 <;> simp_all
    · exact hhB day (by rw [List.take_of_length_le (by omega)]; exact h.2) rfl h.1
  exact rs_tup ⟨rs_int (by rw [hv]), rs_int (by first | rfl | omega), trivial⟩
end Go.Ab.D
