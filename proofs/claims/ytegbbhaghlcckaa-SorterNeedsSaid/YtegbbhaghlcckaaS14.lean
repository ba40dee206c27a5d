/- What functions of this program compute, and the laws of what they compute, under the bounds on lengths that each contract states. -/
import Derived.Test.YtegbbhaghlcckaaK5

set_option linter.unusedSimpArgs false
set_option linter.unusedVariables false
namespace Go.Ab.S
open Go Go.Ab Go.Proofs

noncomputable def r6_0 : Array Oper := opsAt Try.f6 [0]
theorem r6_0_ok : dstOk 139 r6_0.toList = true ∧ r6_0.toList.all (fun o => noDefer o.op) = true := by decide +kernel
noncomputable def r6_1 : Array Oper := opsAt Try.f6 [1, 0]
theorem r6_1_ok : dstOk 139 r6_1.toList = true ∧ r6_1.toList.all (fun o => noDefer o.op) = true := by decide +kernel
noncomputable def r6_2 : Array Oper := opsAt Try.f6 [1, 1, 0]
theorem r6_2_ok : dstOk 139 r6_2.toList = true ∧ r6_2.toList.all (fun o => noDefer o.op) = true := by decide +kernel
noncomputable def r6_3 : Array Oper := opsAt Try.f6 [1, 1, 1, 0]
theorem r6_3_ok : dstOk 139 r6_3.toList = true ∧ r6_3.toList.all (fun o => noDefer o.op) = true := by decide +kernel
noncomputable def r6_4 : Array Oper := opsAt Try.f6 [1, 1, 1, 1, 0, 0]
theorem r6_4_ok : dstOk 139 r6_4.toList = true ∧ r6_4.toList.all (fun o => noDefer o.op) = true := by decide +kernel
noncomputable def r6_5 : Array Oper := opsAt Try.f6 [1, 1, 1, 1, 0, 1, 0, 0]
theorem r6_5_ok : dstOk 139 r6_5.toList = true ∧ r6_5.toList.all (fun o => noDefer o.op) = true := by decide +kernel
noncomputable def r6_6 : Array Oper := opsAt Try.f6 [1, 1, 1, 1, 1, 0]
theorem r6_6_ok : dstOk 139 r6_6.toList = true ∧ r6_6.toList.all (fun o => noDefer o.op) = true := by decide +kernel
noncomputable def r6_7 : Array Oper := opsAt Try.f6 [1, 1, 1, 1, 1, 1, 0, 0]
theorem r6_7_ok : dstOk 139 r6_7.toList = true ∧ r6_7.toList.all (fun o => noDefer o.op) = true := by decide +kernel
noncomputable def r6_8 : Array Oper := opsAt Try.f6 [1, 1, 1, 1, 1, 1, 0, 1, 0, 0]
theorem r6_8_ok : dstOk 139 r6_8.toList = true ∧ r6_8.toList.all (fun o => noDefer o.op) = true := by decide +kernel
noncomputable def r6_9 : Array Oper := opsAt Try.f6 [1, 1, 1, 1, 1, 1, 1, 0, 0]
theorem r6_9_ok : dstOk 139 r6_9.toList = true ∧ r6_9.toList.all (fun o => noDefer o.op) = true := by decide +kernel
noncomputable def r6_10 : Array Oper := opsAt Try.f6 [1, 1, 1, 1, 1, 1, 1, 0, 1, 0, 0]
theorem r6_10_ok : dstOk 139 r6_10.toList = true ∧ r6_10.toList.all (fun o => noDefer o.op) = true := by decide +kernel
noncomputable def r6_11 : Array Oper := opsAt Try.f6 [1, 1, 1, 1, 1, 1, 1, 0, 1, 0, 1, 0]
theorem r6_11_ok : dstOk 139 r6_11.toList = true ∧ r6_11.toList.all (fun o => noDefer o.op) = true := by decide +kernel
noncomputable def r6_12 : Array Oper := opsAt Try.f6 [1, 1, 1, 1, 1, 1, 1, 0, 1, 0, 1, 1, 0, 0]
theorem r6_12_ok : dstOk 139 r6_12.toList = true ∧ r6_12.toList.all (fun o => noDefer o.op) = true := by decide +kernel
noncomputable def r6_13 : Array Oper := opsAt Try.f6 [1, 1, 1, 1, 1, 1, 1, 1, 0]
theorem r6_13_ok : dstOk 139 r6_13.toList = true ∧ r6_13.toList.all (fun o => noDefer o.op) = true := by decide +kernel
noncomputable def r6_14 : Array Oper := opsAt Try.f6 [1, 1, 1, 1, 1, 1, 1, 1, 1, 0]
theorem r6_14_ok : dstOk 139 r6_14.toList = true ∧ r6_14.toList.all (fun o => noDefer o.op) = true := by decide +kernel
noncomputable def r6_15 : Array Oper := opsAt Try.f6 [1, 1, 1, 1, 1, 1, 1, 1, 1, 1, 0]
theorem r6_15_ok : dstOk 139 r6_15.toList = true ∧ r6_15.toList.all (fun o => noDefer o.op) = true := by decide +kernel
noncomputable def r6_16 : Array Oper := opsAt Try.f6 [1, 1, 1, 1, 1, 1, 1, 1, 1, 1, 1, 0, 0]
theorem r6_16_ok : dstOk 139 r6_16.toList = true ∧ r6_16.toList.all (fun o => noDefer o.op) = true := by decide +kernel
noncomputable def r6_17 : Array Oper := opsAt Try.f6 [1, 1, 1, 1, 1, 1, 1, 1, 1, 1, 1, 0, 1, 0, 0]
theorem r6_17_ok : dstOk 139 r6_17.toList = true ∧ r6_17.toList.all (fun o => noDefer o.op) = true := by decide +kernel
noncomputable def r6_18 : Array Oper := opsAt Try.f6 [1, 1, 1, 1, 1, 1, 1, 1, 1, 1, 1, 1, 0]
theorem r6_18_ok : dstOk 139 r6_18.toList = true ∧ r6_18.toList.all (fun o => noDefer o.op) = true := by decide +kernel
noncomputable def r6_19 : Array Oper := opsAt Try.f6 [1, 1, 1, 1, 1, 1, 1, 1, 1, 1, 1, 1, 1, 0, 0]
theorem r6_19_ok : dstOk 139 r6_19.toList = true ∧ r6_19.toList.all (fun o => noDefer o.op) = true := by decide +kernel
noncomputable def r6_20 : Array Oper := opsAt Try.f6 [1, 1, 1, 1, 1, 1, 1, 1, 1, 1, 1, 1, 1, 0, 1, 0, 0, 0]
theorem r6_20_ok : dstOk 139 r6_20.toList = true ∧ r6_20.toList.all (fun o => noDefer o.op) = true := by decide +kernel
noncomputable def r6_21 : Array Oper := opsAt Try.f6 [1, 1, 1, 1, 1, 1, 1, 1, 1, 1, 1, 1, 1, 0, 1, 0, 0, 1, 1, 0, 0, 0]
theorem r6_21_ok : dstOk 139 r6_21.toList = true ∧ r6_21.toList.all (fun o => noDefer o.op) = true := by decide +kernel
noncomputable def r6_22 : Array Oper := opsAt Try.f6 [1, 1, 1, 1, 1, 1, 1, 1, 1, 1, 1, 1, 1, 0, 1, 0, 0, 1, 1, 0, 0, 1, 0, 0, 0, 0, 0]
theorem r6_22_ok : dstOk 139 r6_22.toList = true ∧ r6_22.toList.all (fun o => noDefer o.op) = true := by decide +kernel
noncomputable def r6_23 : Array Oper := opsAt Try.f6 [1, 1, 1, 1, 1, 1, 1, 1, 1, 1, 1, 1, 1, 0, 1, 0, 0, 1, 1, 0, 0, 1, 0, 0, 0, 1, 0]
theorem r6_23_ok : dstOk 139 r6_23.toList = true ∧ r6_23.toList.all (fun o => noDefer o.op) = true := by decide +kernel
noncomputable def b6_0 : Code := (.seq (.seq (.region 22 r6_22 false) (.cond (.tmp 129) .skip (.exit 2))) (.block 3 (.region 23 r6_23 false)))
noncomputable def r6_24 : Array Oper := opsAt Try.f6 [1, 1, 1, 1, 1, 1, 1, 1, 1, 1, 1, 1, 1, 0, 1, 0, 0, 1, 1, 0, 0, 1, 1, 0]
theorem r6_24_ok : dstOk 139 r6_24.toList = true ∧ r6_24.toList.all (fun o => noDefer o.op) = true := by decide +kernel
noncomputable def r6_25 : Array Oper := opsAt Try.f6 [1, 1, 1, 1, 1, 1, 1, 1, 1, 1, 1, 1, 1, 0, 1, 0, 0, 1, 1, 0, 0, 1, 1, 1, 0, 0]
theorem r6_25_ok : dstOk 139 r6_25.toList = true ∧ r6_25.toList.all (fun o => noDefer o.op) = true := by decide +kernel
noncomputable def r6_26 : Array Oper := opsAt Try.f6 [1, 1, 1, 1, 1, 1, 1, 1, 1, 1, 1, 1, 1, 0, 1, 0, 0, 1, 1, 1]
theorem r6_26_ok : dstOk 139 r6_26.toList = true ∧ r6_26.toList.all (fun o => noDefer o.op) = true := by decide +kernel
noncomputable def b6_1 : Code := (.seq (.region 20 r6_20 false) (.seq (.cond (.tmp 113) .skip (.exit 0)) (.seq (.block 1 (.seq (.region 21 r6_21 false) (.seq (.block 2 (.loop b6_0)) (.seq (.region 24 r6_24 false) (.cond (.tmp 136) (.seq (.region 25 r6_25 false) .ret) .skip))))) (.region 26 r6_26 false))))
noncomputable def r6_27 : Array Oper := opsAt Try.f6 [1, 1, 1, 1, 1, 1, 1, 1, 1, 1, 1, 1, 1, 1, 0]
theorem r6_27_ok : dstOk 139 r6_27.toList = true ∧ r6_27.toList.all (fun o => noDefer o.op) = true := by decide +kernel
noncomputable def c6 : Code := (.seq (.region 0 r6_0 false) (.seq (.region 1 r6_1 false) (.seq (.region 2 r6_2 false) (.seq (.region 3 r6_3 false) (.seq (.seq (.region 4 r6_4 false) (.cond (.tmp 43) (.seq (.region 5 r6_5 false) .ret) .skip)) (.seq (.region 6 r6_6 false) (.seq (.seq (.region 7 r6_7 false) (.cond (.tmp 58) (.seq (.region 8 r6_8 false) .ret) .skip)) (.seq (.seq (.region 9 r6_9 false) (.cond (.tmp 60) (.seq (.region 10 r6_10 false) (.seq (.region 11 r6_11 false) (.cond (.tmp 76) (.seq (.region 12 r6_12 false) .ret) .skip))) .skip)) (.seq (.region 13 r6_13 false) (.seq (.region 14 r6_14 false) (.seq (.region 15 r6_15 false) (.seq (.seq (.region 16 r6_16 false) (.cond (.tmp 108) (.seq (.region 17 r6_17 false) .ret) .skip)) (.seq (.region 18 r6_18 false) (.seq (.seq (.region 19 r6_19 false) (.block 0 (.loop b6_1))) (.seq (.region 27 r6_27 false) .ret)))))))))))))))
theorem body6 : Try.f6.body = some c6 := by kernel_rfl
theorem needs_ok (bc : Fl) (caps : List Int) (hlc : caps.length ≤ 9223372036854775807) (hxc : ∀ x ∈ caps, u8r x) (bl : Fl) (l : List Int) (hll : l.length ≤ 9223372036854775807) (hxl : ∀ x ∈ l, u8r x) (x : Int) (hx : 0 ≤ x ∧ x ≤ 255) : PureCall Try.prog GL 6 [.sl 1 bc (caps.map u8AV), .sl 1 bl (l.map u8AV), .raw (.int .u8 x)] (.raw (.bool true)) := by
  refine pure_of_body Try.func6 body6 (Nat.le_of_ble_eq_true rfl) (by simp) (by simp) ?_
  refine w_keep [(0, .sl 1 bc (caps.map u8AV)), (1, .sl 1 bl (l.map u8AV)), (2, .raw (.int .u8 x))] ⟨rfl, rfl, rfl, trivial⟩ ?_
  unfold c6
  obtain ⟨cs, hcs⟩ : ∃ cs, cs = machF caps := ⟨_, rfl⟩
  obtain ⟨hc0, hc12, hc16⟩ := machF_in hxc
  have hrt := machF_right hxc
  rw [← hcs] at hc0 hc12 hc16 hrt
  obtain ⟨L, hL⟩ : ∃ L, L = fedF cs l := ⟨_, rfl⟩
  have hLl := fedF_len cs l
  have hLi := fedF_in cs l
  have hLw := fedF_wrong cs l
  have hLd := fedF_nodup cs l
  rw [← hL] at hLl hLi hLw hLd
  have hpos : ∀ c ∈ cs, 1 ≤ c := fun c hc => (hc16 c hc).1
  have hin : ∀ x ∈ L, x.stk < cs.length := fun x hx => (hLi x hx).2
  have hni := needS_inv cs L L.length (Nat.le_refl _)
  have hN0 : 0 ≤ needN cs L := hni.2.2.1
  have hN1 : needN cs L ≤ L.length := hni.2.2.2
  have hLb : L.length ≤ 150 := by omega
  obtain ⟨sw, hsw⟩ : ∃ sw : Int, sw = x % 201 := ⟨_, rfl⟩
  have hsw0 : 0 ≤ sw ∧ sw ≤ 200 := by omega
  have hz : ∀ l : List Int, l.length = 0 ↔ l = [] := fun l => List.length_eq_zero_iff
  have hA0 : (playF cs (needN cs L) L).over.length = 0 := (hz _).2 ((need_iff hpos hin hN0).2 (Int.le_refl _))
  have hS0 : (playF cs sw L).over.length = 0 ↔ needN cs L ≤ sw := (hz _).trans (need_iff hpos hin hsw0.1)
  have hB0 : 0 < needN cs L → (playF cs (needN cs L - 1) L).over.length ≠ 0 := fun h h0 => by
    have := (need_iff hpos hin (by omega)).1 ((hz _).1 h0)
    omega
  have hsub := over_sub (cs := cs) (l := L) hpos hin hsw0.1
  have hb1 : (playF cs sw L).over.length ≤ 150 := by
    have h1 := playF_count (sw := sw) (by omega) hpos hin
    simp only [allM, List.length_append] at h1; omega
  have hb2 : (playF cs (sw + 1) L).over.length ≤ 150 := by have := hsub.length_le; omega
  clear hni
  refine awp_seq ?_
  refine w_reg (l := r6_0.toList) rfl r6_0_ok ?_
  refine a_op rfl (o_as rfl) ?_
  refine a_nil ?_
  refine tq_n ?_
  refine awp_seq ?_
  refine w_reg (l := r6_1.toList) rfl r6_1_ok ?_
  refine a_op rfl (o_mv rfl) ?_
  refine a_pure rfl rfl rfl cb27 (machine_ok bc caps hlc hxc) ?_
  rw [← hcs]
  refine a_op rfl (o_as rfl) ?_
  refine a_nil ?_
  refine tq_n ?_
  refine awp_seq ?_
  refine w_reg (l := r6_2.toList) rfl r6_2_ok ?_
  refine a_op rfl (o_mv rfl) ?_
  refine a_op rfl (o_mv rfl) ?_
  refine a_pure rfl rfl rfl cb28 (fed_ok _ cs (by omega) bl l hll hxl) ?_
  rw [← hL]
  refine a_op rfl (o_as rfl) ?_
  refine a_nil ?_
  refine tq_n ?_
  refine awp_seq ?_
  refine w_reg (l := r6_3.toList) rfl r6_3_ok ?_
  refine a_op rfl (o_mv rfl) ?_
  refine a_op rfl (o_mv rfl) ?_
  refine a_pure rfl rfl rfl cb33 (need_good _ cs _ L hrt hLw) ?_
  refine a_op rfl (o_mv rfl) ?_
  refine a_op rfl (o_ex rfl rfl) ?_
  refine a_op rfl (o_ex rfl rfl) ?_
  refine a_op rfl (o_as rfl) ?_
  refine a_op rfl (o_as rfl) ?_
  refine a_nil ?_
  refine tq_n ?_
  refine awp_seq ?_
  refine awp_seq ?_
  refine w_reg (l := r6_4.toList) rfl r6_4_ok ?_
  refine a_op rfl (o_mv rfl) ?_
  refine a_op rfl (elD (o_ne rfl rfl) (w := .raw (.bool false)) rfl) ?_
  refine a_op rfl (o_mv rfl) ?_
  refine a_op rfl (o_mv rfl) ?_
  refine a_if rfl (o_lt rfl rfl) (fun h1 => ?_) (fun h2 => ?_)
  · omega
  refine a_op rfl (o_pkf rfl rfl) ?_
  refine a_op rfl (o_mv rfl) ?_
  refine a_op rfl (o_mv rfl) ?_
  refine a_op rfl (o_mv rfl) ?_
  refine a_op rfl (o_len rfl rfl (by first | exact List.length_map .. | rfl) tl68) ?_
  refine a_if rfl (o_gt rfl rfl) (fun h3 => ?_) (fun h4 => ?_)
  · omega
  refine a_op rfl (o_pkf rfl rfl) ?_
  refine a_nil ?_
  refine tq_n ?_
  refine w_false rfl ?_
  refine awp_skip ?_
  refine tq_n ?_
  refine awp_seq ?_
  refine w_reg (l := r6_6.toList) rfl r6_6_ok ?_
  refine a_op rfl (o_mv rfl) ?_
  refine a_op rfl (o_mv rfl) ?_
  refine a_op rfl (o_mv rfl) ?_
  refine a_pure rfl rfl rfl cb29 (run_good _ cs ((needN cs L)) _ L hrt (by omega) (by omega) hLw) ?_
  refine a_op rfl (o_mv rfl) ?_
  refine a_op rfl (o_ex rfl rfl) ?_
  refine a_op rfl (o_ex rfl rfl) ?_
  refine a_op rfl (o_al (N := 0) tz60 rfl rfl rfl) ?_
  refine a_op0 rfl (o_st (N := 4) tn60 rfl rfl rfl rfl rfl) ?_
  refine a_op rfl (o_as rfl) ?_
  refine a_nil ?_
  refine tq_n ?_
  refine awp_seq ?_
  refine awp_seq ?_
  refine w_reg (l := r6_7.toList) rfl r6_7_ok ?_
  refine a_op rfl (o_mv rfl) ?_
  refine a_op rfl (elD (o_ne rfl rfl) (w := .raw (.bool false)) rfl) ?_
  refine a_op rfl (o_mv rfl) ?_
  refine a_op rfl ((by first | exact o_fa tf60_2 rfl rfl | exact o_fap tf60_2 rfl rfl)) ?_
  refine a_op rfl ((by first | exact o_ld tg34 rfl rfl | exact o_ldp tg34 rfl rfl rfl rfl)) ?_
  refine a_op rfl (o_len rfl rfl (by first | exact List.length_map .. | rfl) tl34) ?_
  refine a_if rfl (o_ne rfl rfl) (fun h5 => ?_) (fun h6 => ?_)
  · omega
  refine a_op rfl (o_pkf rfl rfl) ?_
  refine a_nil ?_
  refine tq_n ?_
  refine w_false rfl ?_
  refine awp_skip ?_
  refine tq_n ?_
  refine awp_seq ?_
  refine awp_seq ?_
  refine w_reg (l := r6_9.toList) rfl r6_9_ok ?_
  refine a_op rfl (o_mv rfl) ?_
  refine a_if rfl (o_gt rfl rfl) (fun h7 => ?_) (fun h8 => ?_)
  · refine a_nil ?_
    refine tq_n ?_
    refine w_true rfl ?_
    refine awp_seq ?_
    refine w_reg (l := r6_10.toList) rfl r6_10_ok ?_
    refine a_op rfl (o_mv rfl) ?_
    refine a_op rfl (o_mv rfl) ?_
    refine a_op rfl (o_sub rfl rfl (by simp only [klo, khi]; omega)) ?_
    refine a_op rfl (o_mv rfl) ?_
    refine a_pure rfl rfl rfl cb29 (run_good _ cs ((needN cs L) - 1) _ L hrt (by omega) (by omega) hLw) ?_
    refine a_op rfl (o_mv rfl) ?_
    refine a_op rfl (o_ex rfl rfl) ?_
    refine a_op rfl (o_ex rfl rfl) ?_
    refine a_op rfl (o_al (N := 1) tz60 rfl rfl rfl) ?_
    refine a_op0 rfl (o_st (N := 4) tn60 rfl rfl rfl rfl rfl) ?_
    refine a_op rfl (o_as rfl) ?_
    refine a_nil ?_
    refine tq_n ?_
    refine awp_seq ?_
    refine w_reg (l := r6_11.toList) rfl r6_11_ok ?_
    refine a_op rfl (o_mv rfl) ?_
    refine a_op rfl (elD (o_ne rfl rfl) (w := .raw (.bool false)) rfl) ?_
    refine a_op rfl (o_mv rfl) ?_
    refine a_op rfl ((by first | exact o_fa tf60_2 rfl rfl | exact o_fap tf60_2 rfl rfl)) ?_
    refine a_op rfl ((by first | exact o_ld tg34 rfl rfl | exact o_ldp tg34 rfl rfl rfl rfl)) ?_
    refine a_op rfl (o_len rfl rfl (by first | exact List.length_map .. | rfl) tl34) ?_
    refine a_if rfl (o_eq rfl rfl) (fun h9 => ?_) (fun h10 => ?_)
    · exact absurd (show (playF cs (needN cs L - 1) L).over.length = 0 by omega) (hB0 (by omega))
    refine a_op rfl (o_pkf rfl rfl) ?_
    refine a_nil ?_
    refine tq_n ?_
    refine w_false rfl ?_
    refine awp_skip ?_
    refine tq_n ?_
    refine awp_seq ?_
    refine w_view [(2, .raw (.int .u8 x)), (7, rowAV cs), (8, .sl 2 false (L.map feedAV)), (9, .raw (.int .i64 ((needN cs L))))] [] 0 rfl (Nat.le_of_ble_eq_true rfl) (Nat.le_of_ble_eq_true rfl) ⟨⟨_, rfl, (by first | exact .mpK (Nat.le_of_ble_eq_true rfl) | exact .sloK (Nat.le_of_ble_eq_true rfl) | exact .ptrK (Nat.le_of_ble_eq_true rfl) | exact rs_pur (by simp) rfl)⟩, ⟨_, rfl, (by first | exact .mpK (Nat.le_of_ble_eq_true rfl) | exact .sloK (Nat.le_of_ble_eq_true rfl) | exact .ptrK (Nat.le_of_ble_eq_true rfl) | exact rs_pur (by simp) rfl)⟩, ⟨_, rfl, (by first | exact .mpK (Nat.le_of_ble_eq_true rfl) | exact .sloK (Nat.le_of_ble_eq_true rfl) | exact .ptrK (Nat.le_of_ble_eq_true rfl) | exact rs_pur (by simp) rfl)⟩, ⟨_, rfl, (by first | exact .mpK (Nat.le_of_ble_eq_true rfl) | exact .sloK (Nat.le_of_ble_eq_true rfl) | exact .ptrK (Nat.le_of_ble_eq_true rfl) | exact rs_pur (by simp) rfl)⟩, trivial⟩ trivial ?_
    refine w_reg (l := r6_13.toList) rfl r6_13_ok ?_
    refine a_op rfl (o_mv rfl) ?_
    refine a_op rfl (o_rem rfl rfl (by omega) (by omega)) ?_
    rw [← hsw]
    refine a_op rfl (o_cv tk5 tk3 rfl (by simp only [klo, khi]; omega)) ?_
    refine a_op rfl (o_as rfl) ?_
    refine a_nil ?_
    refine tq_n ?_
    refine awp_seq ?_
    refine w_reg (l := r6_14.toList) rfl r6_14_ok ?_
    refine a_op rfl (o_mv rfl) ?_
    refine a_op rfl (o_mv rfl) ?_
    refine a_op rfl (o_mv rfl) ?_
    refine a_pure rfl rfl rfl cb29 (run_good _ cs (sw) _ L hrt (by omega) (by omega) hLw) ?_
    refine a_op rfl (o_mv rfl) ?_
    refine a_op rfl (o_ex rfl rfl) ?_
    refine a_op rfl (o_ex rfl rfl) ?_
    refine a_op rfl (o_al (N := 0) tz60 rfl rfl rfl) ?_
    refine a_op0 rfl (o_st (N := 4) tn60 rfl rfl rfl rfl rfl) ?_
    refine a_op rfl (o_as rfl) ?_
    refine a_nil ?_
    refine tq_n ?_
    refine awp_seq ?_
    refine w_reg (l := r6_15.toList) rfl r6_15_ok ?_
    refine a_op rfl (o_mv rfl) ?_
    refine a_op rfl (o_mv rfl) ?_
    refine a_op rfl (o_add rfl rfl (by simp only [klo, khi]; omega)) ?_
    refine a_op rfl (o_mv rfl) ?_
    refine a_pure rfl rfl rfl cb29 (run_good _ cs (sw + 1) _ L hrt (by omega) (by omega) hLw) ?_
    refine a_op rfl (o_mv rfl) ?_
    refine a_op rfl (o_ex rfl rfl) ?_
    refine a_op rfl (o_ex rfl rfl) ?_
    refine a_op rfl (o_al (N := 1) tz60 rfl rfl rfl) ?_
    refine a_op0 rfl (o_st (N := 4) tn60 rfl rfl rfl rfl rfl) ?_
    refine a_op rfl (o_as rfl) ?_
    refine a_nil ?_
    refine tq_n ?_
    refine awp_seq ?_
    refine awp_seq ?_
    refine w_reg (l := r6_16.toList) rfl r6_16_ok ?_
    refine a_op rfl (o_mv rfl) ?_
    refine a_op rfl (o_mv rfl) ?_
    refine a_op rfl (o_add rfl rfl (by simp only [klo, khi]; omega)) ?_
    refine a_op rfl (elD (o_ne rfl rfl) (w := .raw (.bool false)) rfl) ?_
    refine a_op rfl (o_mv rfl) ?_
    refine a_op rfl ((by first | exact o_fa tf60_2 rfl rfl | exact o_fap tf60_2 rfl rfl)) ?_
    refine a_op rfl ((by first | exact o_ld tg34 rfl rfl | exact o_ldp tg34 rfl rfl rfl rfl)) ?_
    refine a_op rfl (o_len rfl rfl (by first | exact List.length_map .. | rfl) tl34) ?_
    refine a_op rfl (o_eq rfl rfl) ?_
    refine a_op rfl (o_mv rfl) ?_
    refine a_op rfl (o_mv rfl) ?_
    refine a_op rfl (o_ge rfl rfl) ?_
    refine a_op rfl (o_neb u4 rfl rfl (decide_eq_decide.2 ⟨fun h => hS0.1 (by omega), fun h => by have := hS0.2 h; omega⟩)) ?_
    refine a_op rfl (o_pkf rfl rfl) ?_
    refine a_nil ?_
    refine tq_n ?_
    refine w_false rfl ?_
    refine awp_skip ?_
    refine tq_n ?_
    refine awp_seq ?_
    refine w_reg (l := r6_18.toList) rfl r6_18_ok ?_
    refine a_op rfl (o_as rfl) ?_
    refine a_nil ?_
    refine tq_n ?_
    refine awp_seq ?_
    refine awp_seq ?_
    refine w_reg (l := r6_19.toList) rfl r6_19_ok ?_
    refine a_op rfl ((by first | exact o_fa tf60_2 rfl rfl | exact o_fap tf60_2 rfl rfl)) ?_
    refine a_op rfl ((by first | exact o_ld tg34 rfl rfl | exact o_ldp tg34 rfl rfl rfl rfl)) ?_
    refine a_op rfl (o_len rfl rfl (by first | exact List.length_map .. | rfl) tl34) ?_
    refine a_op rfl (o_mv rfl) ?_
    refine a_nil ?_
    refine tq_n ?_
    refine awp_block ?_
    refine w_loop (fun q : Nat × Nat => q.1 ≤ (playF cs (sw + 1) L).over.length ∧ q.2 ≤ (playF cs sw L).over.length ∧ List.Sublist ((playF cs (sw + 1) L).over.drop q.1) ((playF cs sw L).over.drop q.2)) (fun q => [(15, .ptr 0 0), (18, .raw (.int .i64 ((q.2 : Nat) : Int))), (110, rowAV (playF cs (sw + 1) L).over), (111, .raw (.int .i64 (((playF cs (sw + 1) L).over.length : Nat) : Int))), (112, .raw (.int .i64 ((q.1 : Nat) : Int)))]) (fun _ => [.var [.sl 1 false ((playF cs sw L).rows.map rowAV), rowAV (playF cs sw L).swept, rowAV (playF cs sw L).over, rowAV (playF cs sw L).rej, .sl 3 false ((playF cs sw L).ev.map evAV)], .var [.sl 1 false ((playF cs (sw + 1) L).rows.map rowAV), rowAV (playF cs (sw + 1) L).swept, rowAV (playF cs (sw + 1) L).over, rowAV (playF cs (sw + 1) L).rej, .sl 3 false ((playF cs (sw + 1) L).ev.map evAV)]]) (fun q => (playF cs (sw + 1) L).over.length - q.1) (⟨0, 0⟩) ⟨by simp, by simp, by simpa using hsub⟩ ⟨(by first | exact sub_int rfl (by omega) | rfl), (by first | exact sub_int rfl (by omega) | rfl), (by first | exact sub_int rfl (by omega) | rfl), (by first | exact sub_int rfl (by omega) | rfl), (by first | exact sub_int rfl (by omega) | rfl), trivial⟩ rfl ?_
    intro q ⟨hp1, hp2, hp3⟩
    unfold b6_1
    refine awp_seq ?_
    refine w_reg (l := r6_20.toList) rfl r6_20_ok ?_
    refine a_if rfl (o_lt rfl rfl) (fun h11 => ?_) (fun h12 => ?_)
    · refine a_nil ?_
      refine tq_n ?_
      refine awp_seq ?_
      refine w_true rfl ?_
      refine awp_skip ?_
      refine tq_n ?_
      refine awp_seq ?_
      refine awp_block ?_
      refine awp_seq ?_
      have hi : q.1 < (playF cs (sw + 1) L).over.length := by omega
      refine w_reg (l := r6_21.toList) rfl r6_21_ok ?_
      refine a_op rfl (o_ix te34 tn3 rfl rfl rfl (ixm _ _ _ hi)) ?_
      refine a_op rfl ((by first | exact o_ld tg3 rfl rfl | exact o_ldp tg3 rfl rfl rfl rfl)) ?_
      refine a_op rfl (o_as rfl) ?_
      refine a_nil ?_
      refine tq_n ?_
      refine awp_seq ?_
      refine awp_block ?_
      refine w_loop (fun a : Nat => a ≤ (playF cs sw L).over.length ∧ List.Sublist ((playF cs (sw + 1) L).over.drop q.1) ((playF cs sw L).over.drop a)) (fun a => [(15, .ptr 0 0), (18, .raw (.int .i64 ((a : Nat) : Int))), (110, rowAV (playF cs (sw + 1) L).over), (111, .raw (.int .i64 (((playF cs (sw + 1) L).over.length : Nat) : Int))), (112, .raw (.int .i64 ((q.1 : Nat) : Int))), (20, .raw (.int .i64 ((playF cs (sw + 1) L).over[q.1])))]) (fun _ => [.var [.sl 1 false ((playF cs sw L).rows.map rowAV), rowAV (playF cs sw L).swept, rowAV (playF cs sw L).over, rowAV (playF cs sw L).rej, .sl 3 false ((playF cs sw L).ev.map evAV)], .var [.sl 1 false ((playF cs (sw + 1) L).rows.map rowAV), rowAV (playF cs (sw + 1) L).swept, rowAV (playF cs (sw + 1) L).over, rowAV (playF cs (sw + 1) L).rej, .sl 3 false ((playF cs (sw + 1) L).ev.map evAV)]]) (fun a => (playF cs sw L).over.length - a) (q.2) ⟨hp2, hp3⟩ ⟨(by first | exact sub_int rfl (by omega) | rfl), (by first | exact sub_int rfl (by omega) | rfl), (by first | exact sub_int rfl (by omega) | rfl), (by first | exact sub_int rfl (by omega) | rfl), (by first | exact sub_int rfl (by omega) | rfl), (by first | exact sub_int rfl (by omega) | rfl), trivial⟩ rfl ?_
      intro a ⟨ha1, ha2⟩
      unfold b6_0
      refine awp_seq ?_
      refine awp_seq ?_
      refine w_reg (l := r6_22.toList) rfl r6_22_ok ?_
      refine a_op rfl (o_mv rfl) ?_
      refine a_op rfl ((by first | exact o_fa tf60_2 rfl rfl | exact o_fap tf60_2 rfl rfl)) ?_
      refine a_op rfl ((by first | exact o_ld tg34 rfl rfl | exact o_ldp tg34 rfl rfl rfl rfl)) ?_
      refine a_op rfl (o_len rfl rfl (by first | exact List.length_map .. | rfl) tl34) ?_
      refine a_if rfl (o_lt rfl rfl) (fun h13 => ?_) (fun h14 => ?_)
      · have haL : a < (playF cs sw L).over.length := by omega
        refine a_op rfl (o_mv rfl) ?_
        refine a_op rfl ((by first | exact o_fa tf60_2 rfl rfl | exact o_fap tf60_2 rfl rfl)) ?_
        refine a_op rfl ((by first | exact o_ld tg34 rfl rfl | exact o_ldp tg34 rfl rfl rfl rfl)) ?_
        refine a_op rfl (o_mv rfl) ?_
        refine a_op rfl (o_ix te34 tn3 rfl rfl rfl (ixm _ _ _ haL)) ?_
        refine a_op rfl ((by first | exact o_ld tg3 rfl rfl | exact o_ldp tg3 rfl rfl rfl rfl)) ?_
        refine a_op rfl (o_mv rfl) ?_
        refine a_if rfl (o_ne rfl rfl) (fun h15 => ?_) (fun h16 => ?_)
        · refine a_op rfl (o_pkt rfl rfl) ?_
          refine a_nil ?_
          refine tq_n ?_
          refine w_true rfl ?_
          refine awp_skip ?_
          refine tq_n ?_
          refine awp_block ?_
          refine w_reg (l := r6_23.toList) rfl r6_23_ok ?_
          refine a_op rfl (o_mv rfl) ?_
          refine a_op rfl (o_add rfl rfl (by simp only [klo, khi]; omega)) ?_
          refine a_op rfl (o_as rfl) ?_
          refine a_nil ?_
          refine bq_n ?_
          refine tq_n ?_
          exact ⟨a + 1, ⟨⟨by omega, sub_skip ha2 hi haL (by assumption)⟩, by omega⟩, ⟨(by first | exact sub_int rfl (by omega) | rfl), (by first | exact sub_int rfl (by omega) | rfl), (by first | exact sub_int rfl (by omega) | rfl), (by first | exact sub_int rfl (by omega) | rfl), (by first | exact sub_int rfl (by omega) | rfl), (by first | exact sub_int rfl (by omega) | rfl), trivial⟩, rfl⟩
        refine a_op rfl (o_pkt rfl rfl) ?_
        refine a_nil ?_
        refine tq_n ?_
        refine w_false rfl ?_
        refine awp_exit ?_
        refine tq_x ?_
        refine tq_x ?_
        refine bq_hit ?_
        refine tq_n ?_
        refine awp_seq ?_
        refine w_reg (l := r6_24.toList) rfl r6_24_ok ?_
        refine a_op rfl (o_mv rfl) ?_
        refine a_op rfl ((by first | exact o_fa tf60_2 rfl rfl | exact o_fap tf60_2 rfl rfl)) ?_
        refine a_op rfl ((by first | exact o_ld tg34 rfl rfl | exact o_ldp tg34 rfl rfl rfl rfl)) ?_
        refine a_op rfl (o_len rfl rfl (by first | exact List.length_map .. | rfl) tl34) ?_
        refine a_if rfl (o_eq rfl rfl) (fun h17 => ?_) (fun h18 => ?_)
        · exact absurd (sub_in ha2 hi) (by omega)
        refine a_nil ?_
        refine tq_n ?_
        refine w_false rfl ?_
        refine awp_skip ?_
        refine bq_n ?_
        refine tq_n ?_
        refine w_reg (l := r6_26.toList) rfl r6_26_ok ?_
        refine a_op rfl (o_add rfl rfl (by simp only [klo, khi]; omega)) ?_
        refine a_op rfl (o_mv rfl) ?_
        refine a_nil ?_
        refine tq_n ?_
        exact ⟨⟨q.1 + 1, a⟩, ⟨⟨by dsimp only; omega, ha1, sub_next ha2 hi⟩, by dsimp only; omega⟩, ⟨(by first | exact sub_int rfl (by omega) | rfl), (by first | exact sub_int rfl (by omega) | rfl), (by first | exact sub_int rfl (by omega) | rfl), (by first | exact sub_int rfl (by omega) | rfl), (by first | exact sub_int rfl (by omega) | rfl), trivial⟩, rfl⟩
      refine a_op rfl (o_mv rfl) ?_
      refine a_off rfl ?_
      refine a_off rfl ?_
      refine a_off rfl ?_
      refine a_off rfl ?_
      refine a_off rfl ?_
      refine a_off rfl ?_
      refine a_off rfl ?_
      refine a_op rfl (o_pkf rfl rfl) ?_
      refine a_nil ?_
      refine tq_n ?_
      refine w_false rfl ?_
      refine awp_exit ?_
      refine tq_x ?_
      refine tq_x ?_
      refine bq_hit ?_
      refine tq_n ?_
      refine awp_seq ?_
      refine w_reg (l := r6_24.toList) rfl r6_24_ok ?_
      refine a_op rfl (o_mv rfl) ?_
      refine a_op rfl ((by first | exact o_fa tf60_2 rfl rfl | exact o_fap tf60_2 rfl rfl)) ?_
      refine a_op rfl ((by first | exact o_ld tg34 rfl rfl | exact o_ldp tg34 rfl rfl rfl rfl)) ?_
      refine a_op rfl (o_len rfl rfl (by first | exact List.length_map .. | rfl) tl34) ?_
      refine a_if rfl (o_eq rfl rfl) (fun h19 => ?_) (fun h20 => ?_)
      · exact absurd (sub_in ha2 hi) (by omega)
      refine a_nil ?_
      refine tq_n ?_
      refine w_false rfl ?_
      refine awp_skip ?_
      refine bq_n ?_
      refine tq_n ?_
      refine w_reg (l := r6_26.toList) rfl r6_26_ok ?_
      refine a_op rfl (o_add rfl rfl (by simp only [klo, khi]; omega)) ?_
      refine a_op rfl (o_mv rfl) ?_
      refine a_nil ?_
      refine tq_n ?_
      exact ⟨⟨q.1 + 1, a⟩, ⟨⟨by dsimp only; omega, ha1, sub_next ha2 hi⟩, by dsimp only; omega⟩, ⟨(by first | exact sub_int rfl (by omega) | rfl), (by first | exact sub_int rfl (by omega) | rfl), (by first | exact sub_int rfl (by omega) | rfl), (by first | exact sub_int rfl (by omega) | rfl), (by first | exact sub_int rfl (by omega) | rfl), trivial⟩, rfl⟩
    refine a_nil ?_
    refine tq_n ?_
    refine awp_seq ?_
    refine w_false rfl ?_
    refine awp_exit ?_
    refine tq_x ?_
    refine tq_x ?_
    refine bq_hit ?_
    refine tq_n ?_
    refine awp_seq ?_
    refine w_reg (l := r6_27.toList) rfl r6_27_ok ?_
    refine a_pure rfl rfl rfl cb32 awake_ok ?_
    refine a_op rfl (o_as rfl) ?_
    refine a_nil ?_
    refine tq_n ?_
    refine awp_ret ?_
    refine r_one rfl ⟨rfl, trivial⟩ ?_
    exact rs_pur (by simp) rfl
  refine a_nil ?_
  refine tq_n ?_
  refine w_false rfl ?_
  refine awp_skip ?_
  refine tq_n ?_
  refine awp_seq ?_
  refine w_view [(2, .raw (.int .u8 x)), (7, rowAV cs), (8, .sl 2 false (L.map feedAV)), (9, .raw (.int .i64 ((needN cs L))))] [] 0 rfl (Nat.le_of_ble_eq_true rfl) (Nat.le_of_ble_eq_true rfl) ⟨⟨_, rfl, (by first | exact .mpK (Nat.le_of_ble_eq_true rfl) | exact .sloK (Nat.le_of_ble_eq_true rfl) | exact .ptrK (Nat.le_of_ble_eq_true rfl) | exact rs_pur (by simp) rfl)⟩, ⟨_, rfl, (by first | exact .mpK (Nat.le_of_ble_eq_true rfl) | exact .sloK (Nat.le_of_ble_eq_true rfl) | exact .ptrK (Nat.le_of_ble_eq_true rfl) | exact rs_pur (by simp) rfl)⟩, ⟨_, rfl, (by first | exact .mpK (Nat.le_of_ble_eq_true rfl) | exact .sloK (Nat.le_of_ble_eq_true rfl) | exact .ptrK (Nat.le_of_ble_eq_true rfl) | exact rs_pur (by simp) rfl)⟩, ⟨_, rfl, (by first | exact .mpK (Nat.le_of_ble_eq_true rfl) | exact .sloK (Nat.le_of_ble_eq_true rfl) | exact .ptrK (Nat.le_of_ble_eq_true rfl) | exact rs_pur (by simp) rfl)⟩, trivial⟩ trivial ?_
  refine w_reg (l := r6_13.toList) rfl r6_13_ok ?_
  refine a_op rfl (o_mv rfl) ?_
  refine a_op rfl (o_rem rfl rfl (by omega) (by omega)) ?_
  rw [← hsw]
  refine a_op rfl (o_cv tk5 tk3 rfl (by simp only [klo, khi]; omega)) ?_
  refine a_op rfl (o_as rfl) ?_
  refine a_nil ?_
  refine tq_n ?_
  refine awp_seq ?_
  refine w_reg (l := r6_14.toList) rfl r6_14_ok ?_
  refine a_op rfl (o_mv rfl) ?_
  refine a_op rfl (o_mv rfl) ?_
  refine a_op rfl (o_mv rfl) ?_
  refine a_pure rfl rfl rfl cb29 (run_good _ cs (sw) _ L hrt (by omega) (by omega) hLw) ?_
  refine a_op rfl (o_mv rfl) ?_
  refine a_op rfl (o_ex rfl rfl) ?_
  refine a_op rfl (o_ex rfl rfl) ?_
  refine a_op rfl (o_al (N := 0) tz60 rfl rfl rfl) ?_
  refine a_op0 rfl (o_st (N := 4) tn60 rfl rfl rfl rfl rfl) ?_
  refine a_op rfl (o_as rfl) ?_
  refine a_nil ?_
  refine tq_n ?_
  refine awp_seq ?_
  refine w_reg (l := r6_15.toList) rfl r6_15_ok ?_
  refine a_op rfl (o_mv rfl) ?_
  refine a_op rfl (o_mv rfl) ?_
  refine a_op rfl (o_add rfl rfl (by simp only [klo, khi]; omega)) ?_
  refine a_op rfl (o_mv rfl) ?_
  refine a_pure rfl rfl rfl cb29 (run_good _ cs (sw + 1) _ L hrt (by omega) (by omega) hLw) ?_
  refine a_op rfl (o_mv rfl) ?_
  refine a_op rfl (o_ex rfl rfl) ?_
  refine a_op rfl (o_ex rfl rfl) ?_
  refine a_op rfl (o_al (N := 1) tz60 rfl rfl rfl) ?_
  refine a_op0 rfl (o_st (N := 4) tn60 rfl rfl rfl rfl rfl) ?_
  refine a_op rfl (o_as rfl) ?_
  refine a_nil ?_
  refine tq_n ?_
  refine awp_seq ?_
  refine awp_seq ?_
  refine w_reg (l := r6_16.toList) rfl r6_16_ok ?_
  refine a_op rfl (o_mv rfl) ?_
  refine a_op rfl (o_mv rfl) ?_
  refine a_op rfl (o_add rfl rfl (by simp only [klo, khi]; omega)) ?_
  refine a_op rfl (elD (o_ne rfl rfl) (w := .raw (.bool false)) rfl) ?_
  refine a_op rfl (o_mv rfl) ?_
  refine a_op rfl ((by first | exact o_fa tf60_2 rfl rfl | exact o_fap tf60_2 rfl rfl)) ?_
  refine a_op rfl ((by first | exact o_ld tg34 rfl rfl | exact o_ldp tg34 rfl rfl rfl rfl)) ?_
  refine a_op rfl (o_len rfl rfl (by first | exact List.length_map .. | rfl) tl34) ?_
  refine a_op rfl (o_eq rfl rfl) ?_
  refine a_op rfl (o_mv rfl) ?_
  refine a_op rfl (o_mv rfl) ?_
  refine a_op rfl (o_ge rfl rfl) ?_
  refine a_op rfl (o_neb u4 rfl rfl (decide_eq_decide.2 ⟨fun h => hS0.1 (by omega), fun h => by have := hS0.2 h; omega⟩)) ?_
  refine a_op rfl (o_pkf rfl rfl) ?_
  refine a_nil ?_
  refine tq_n ?_
  refine w_false rfl ?_
  refine awp_skip ?_
  refine tq_n ?_
  refine awp_seq ?_
  refine w_reg (l := r6_18.toList) rfl r6_18_ok ?_
  refine a_op rfl (o_as rfl) ?_
  refine a_nil ?_
  refine tq_n ?_
  refine awp_seq ?_
  refine awp_seq ?_
  refine w_reg (l := r6_19.toList) rfl r6_19_ok ?_
  refine a_op rfl ((by first | exact o_fa tf60_2 rfl rfl | exact o_fap tf60_2 rfl rfl)) ?_
  refine a_op rfl ((by first | exact o_ld tg34 rfl rfl | exact o_ldp tg34 rfl rfl rfl rfl)) ?_
  refine a_op rfl (o_len rfl rfl (by first | exact List.length_map .. | rfl) tl34) ?_
  refine a_op rfl (o_mv rfl) ?_
  refine a_nil ?_
  refine tq_n ?_
  refine awp_block ?_
  refine w_loop (fun q : Nat × Nat => q.1 ≤ (playF cs (sw + 1) L).over.length ∧ q.2 ≤ (playF cs sw L).over.length ∧ List.Sublist ((playF cs (sw + 1) L).over.drop q.1) ((playF cs sw L).over.drop q.2)) (fun q => [(15, .ptr 0 0), (18, .raw (.int .i64 ((q.2 : Nat) : Int))), (110, rowAV (playF cs (sw + 1) L).over), (111, .raw (.int .i64 (((playF cs (sw + 1) L).over.length : Nat) : Int))), (112, .raw (.int .i64 ((q.1 : Nat) : Int)))]) (fun _ => [.var [.sl 1 false ((playF cs sw L).rows.map rowAV), rowAV (playF cs sw L).swept, rowAV (playF cs sw L).over, rowAV (playF cs sw L).rej, .sl 3 false ((playF cs sw L).ev.map evAV)], .var [.sl 1 false ((playF cs (sw + 1) L).rows.map rowAV), rowAV (playF cs (sw + 1) L).swept, rowAV (playF cs (sw + 1) L).over, rowAV (playF cs (sw + 1) L).rej, .sl 3 false ((playF cs (sw + 1) L).ev.map evAV)]]) (fun q => (playF cs (sw + 1) L).over.length - q.1) (⟨0, 0⟩) ⟨by simp, by simp, by simpa using hsub⟩ ⟨(by first | exact sub_int rfl (by omega) | rfl), (by first | exact sub_int rfl (by omega) | rfl), (by first | exact sub_int rfl (by omega) | rfl), (by first | exact sub_int rfl (by omega) | rfl), (by first | exact sub_int rfl (by omega) | rfl), trivial⟩ rfl ?_
  intro q ⟨hp1, hp2, hp3⟩
  unfold b6_1
  refine awp_seq ?_
  refine w_reg (l := r6_20.toList) rfl r6_20_ok ?_
  refine a_if rfl (o_lt rfl rfl) (fun h21 => ?_) (fun h22 => ?_)
  · refine a_nil ?_
    refine tq_n ?_
    refine awp_seq ?_
    refine w_true rfl ?_
    refine awp_skip ?_
    refine tq_n ?_
    refine awp_seq ?_
    refine awp_block ?_
    refine awp_seq ?_
    have hi : q.1 < (playF cs (sw + 1) L).over.length := by omega
    refine w_reg (l := r6_21.toList) rfl r6_21_ok ?_
    refine a_op rfl (o_ix te34 tn3 rfl rfl rfl (ixm _ _ _ hi)) ?_
    refine a_op rfl ((by first | exact o_ld tg3 rfl rfl | exact o_ldp tg3 rfl rfl rfl rfl)) ?_
    refine a_op rfl (o_as rfl) ?_
    refine a_nil ?_
    refine tq_n ?_
    refine awp_seq ?_
    refine awp_block ?_
    refine w_loop (fun a : Nat => a ≤ (playF cs sw L).over.length ∧ List.Sublist ((playF cs (sw + 1) L).over.drop q.1) ((playF cs sw L).over.drop a)) (fun a => [(15, .ptr 0 0), (18, .raw (.int .i64 ((a : Nat) : Int))), (110, rowAV (playF cs (sw + 1) L).over), (111, .raw (.int .i64 (((playF cs (sw + 1) L).over.length : Nat) : Int))), (112, .raw (.int .i64 ((q.1 : Nat) : Int))), (20, .raw (.int .i64 ((playF cs (sw + 1) L).over[q.1])))]) (fun _ => [.var [.sl 1 false ((playF cs sw L).rows.map rowAV), rowAV (playF cs sw L).swept, rowAV (playF cs sw L).over, rowAV (playF cs sw L).rej, .sl 3 false ((playF cs sw L).ev.map evAV)], .var [.sl 1 false ((playF cs (sw + 1) L).rows.map rowAV), rowAV (playF cs (sw + 1) L).swept, rowAV (playF cs (sw + 1) L).over, rowAV (playF cs (sw + 1) L).rej, .sl 3 false ((playF cs (sw + 1) L).ev.map evAV)]]) (fun a => (playF cs sw L).over.length - a) (q.2) ⟨hp2, hp3⟩ ⟨(by first | exact sub_int rfl (by omega) | rfl), (by first | exact sub_int rfl (by omega) | rfl), (by first | exact sub_int rfl (by omega) | rfl), (by first | exact sub_int rfl (by omega) | rfl), (by first | exact sub_int rfl (by omega) | rfl), (by first | exact sub_int rfl (by omega) | rfl), trivial⟩ rfl ?_
    intro a ⟨ha1, ha2⟩
    unfold b6_0
    refine awp_seq ?_
    refine awp_seq ?_
    refine w_reg (l := r6_22.toList) rfl r6_22_ok ?_
    refine a_op rfl (o_mv rfl) ?_
    refine a_op rfl ((by first | exact o_fa tf60_2 rfl rfl | exact o_fap tf60_2 rfl rfl)) ?_
    refine a_op rfl ((by first | exact o_ld tg34 rfl rfl | exact o_ldp tg34 rfl rfl rfl rfl)) ?_
    refine a_op rfl (o_len rfl rfl (by first | exact List.length_map .. | rfl) tl34) ?_
    refine a_if rfl (o_lt rfl rfl) (fun h23 => ?_) (fun h24 => ?_)
    · have haL : a < (playF cs sw L).over.length := by omega
      refine a_op rfl (o_mv rfl) ?_
      refine a_op rfl ((by first | exact o_fa tf60_2 rfl rfl | exact o_fap tf60_2 rfl rfl)) ?_
      refine a_op rfl ((by first | exact o_ld tg34 rfl rfl | exact o_ldp tg34 rfl rfl rfl rfl)) ?_
      refine a_op rfl (o_mv rfl) ?_
      refine a_op rfl (o_ix te34 tn3 rfl rfl rfl (ixm _ _ _ haL)) ?_
      refine a_op rfl ((by first | exact o_ld tg3 rfl rfl | exact o_ldp tg3 rfl rfl rfl rfl)) ?_
      refine a_op rfl (o_mv rfl) ?_
      refine a_if rfl (o_ne rfl rfl) (fun h25 => ?_) (fun h26 => ?_)
      · refine a_op rfl (o_pkt rfl rfl) ?_
        refine a_nil ?_
        refine tq_n ?_
        refine w_true rfl ?_
        refine awp_skip ?_
        refine tq_n ?_
        refine awp_block ?_
        refine w_reg (l := r6_23.toList) rfl r6_23_ok ?_
        refine a_op rfl (o_mv rfl) ?_
        refine a_op rfl (o_add rfl rfl (by simp only [klo, khi]; omega)) ?_
        refine a_op rfl (o_as rfl) ?_
        refine a_nil ?_
        refine bq_n ?_
        refine tq_n ?_
        exact ⟨a + 1, ⟨⟨by omega, sub_skip ha2 hi haL (by assumption)⟩, by omega⟩, ⟨(by first | exact sub_int rfl (by omega) | rfl), (by first | exact sub_int rfl (by omega) | rfl), (by first | exact sub_int rfl (by omega) | rfl), (by first | exact sub_int rfl (by omega) | rfl), (by first | exact sub_int rfl (by omega) | rfl), (by first | exact sub_int rfl (by omega) | rfl), trivial⟩, rfl⟩
      refine a_op rfl (o_pkt rfl rfl) ?_
      refine a_nil ?_
      refine tq_n ?_
      refine w_false rfl ?_
      refine awp_exit ?_
      refine tq_x ?_
      refine tq_x ?_
      refine bq_hit ?_
      refine tq_n ?_
      refine awp_seq ?_
      refine w_reg (l := r6_24.toList) rfl r6_24_ok ?_
      refine a_op rfl (o_mv rfl) ?_
      refine a_op rfl ((by first | exact o_fa tf60_2 rfl rfl | exact o_fap tf60_2 rfl rfl)) ?_
      refine a_op rfl ((by first | exact o_ld tg34 rfl rfl | exact o_ldp tg34 rfl rfl rfl rfl)) ?_
      refine a_op rfl (o_len rfl rfl (by first | exact List.length_map .. | rfl) tl34) ?_
      refine a_if rfl (o_eq rfl rfl) (fun h27 => ?_) (fun h28 => ?_)
      · exact absurd (sub_in ha2 hi) (by omega)
      refine a_nil ?_
      refine tq_n ?_
      refine w_false rfl ?_
      refine awp_skip ?_
      refine bq_n ?_
      refine tq_n ?_
      refine w_reg (l := r6_26.toList) rfl r6_26_ok ?_
      refine a_op rfl (o_add rfl rfl (by simp only [klo, khi]; omega)) ?_
      refine a_op rfl (o_mv rfl) ?_
      refine a_nil ?_
      refine tq_n ?_
      exact ⟨⟨q.1 + 1, a⟩, ⟨⟨by dsimp only; omega, ha1, sub_next ha2 hi⟩, by dsimp only; omega⟩, ⟨(by first | exact sub_int rfl (by omega) | rfl), (by first | exact sub_int rfl (by omega) | rfl), (by first | exact sub_int rfl (by omega) | rfl), (by first | exact sub_int rfl (by omega) | rfl), (by first | exact sub_int rfl (by omega) | rfl), trivial⟩, rfl⟩
    refine a_op rfl (o_mv rfl) ?_
    refine a_off rfl ?_
    refine a_off rfl ?_
    refine a_off rfl ?_
    refine a_off rfl ?_
    refine a_off rfl ?_
    refine a_off rfl ?_
    refine a_off rfl ?_
    refine a_op rfl (o_pkf rfl rfl) ?_
    refine a_nil ?_
    refine tq_n ?_
    refine w_false rfl ?_
    refine awp_exit ?_
    refine tq_x ?_
    refine tq_x ?_
    refine bq_hit ?_
    refine tq_n ?_
    refine awp_seq ?_
    refine w_reg (l := r6_24.toList) rfl r6_24_ok ?_
    refine a_op rfl (o_mv rfl) ?_
    refine a_op rfl ((by first | exact o_fa tf60_2 rfl rfl | exact o_fap tf60_2 rfl rfl)) ?_
    refine a_op rfl ((by first | exact o_ld tg34 rfl rfl | exact o_ldp tg34 rfl rfl rfl rfl)) ?_
    refine a_op rfl (o_len rfl rfl (by first | exact List.length_map .. | rfl) tl34) ?_
    refine a_if rfl (o_eq rfl rfl) (fun h29 => ?_) (fun h30 => ?_)
    · exact absurd (sub_in ha2 hi) (by omega)
    refine a_nil ?_
    refine tq_n ?_
    refine w_false rfl ?_
    refine awp_skip ?_
    refine bq_n ?_
    refine tq_n ?_
    refine w_reg (l := r6_26.toList) rfl r6_26_ok ?_
    refine a_op rfl (o_add rfl rfl (by simp only [klo, khi]; omega)) ?_
    refine a_op rfl (o_mv rfl) ?_
    refine a_nil ?_
    refine tq_n ?_
    exact ⟨⟨q.1 + 1, a⟩, ⟨⟨by dsimp only; omega, ha1, sub_next ha2 hi⟩, by dsimp only; omega⟩, ⟨(by first | exact sub_int rfl (by omega) | rfl), (by first | exact sub_int rfl (by omega) | rfl), (by first | exact sub_int rfl (by omega) | rfl), (by first | exact sub_int rfl (by omega) | rfl), (by first | exact sub_int rfl (by omega) | rfl), trivial⟩, rfl⟩
  refine a_nil ?_
  refine tq_n ?_
  refine awp_seq ?_
  refine w_false rfl ?_
  refine awp_exit ?_
  refine tq_x ?_
  refine tq_x ?_
  refine bq_hit ?_
  refine tq_n ?_
  refine awp_seq ?_
  refine w_reg (l := r6_27.toList) rfl r6_27_ok ?_
  refine a_pure rfl rfl rfl cb32 awake_ok ?_
  refine a_op rfl (o_as rfl) ?_
  refine a_nil ?_
  refine tq_n ?_
  refine awp_ret ?_
  refine r_one rfl ⟨rfl, trivial⟩ ?_
  exact rs_pur (by simp) rfl
end Go.Ab.S
