/- What functions of this program compute, and the laws of what they compute, under the bounds on lengths that each contract states. -/
import Derived.Test.YtegbbhaghlcckaaK4

set_option linter.unusedSimpArgs false
set_option linter.unusedVariables false
namespace Go.Ab.S
open Go Go.Ab Go.Proofs

noncomputable def r5_0 : Array Oper := opsAt Try.f5 [0]
theorem r5_0_ok : dstOk 172 r5_0.toList = true ∧ r5_0.toList.all (fun o => noDefer o.op) = true := by decide +kernel
noncomputable def r5_1 : Array Oper := opsAt Try.f5 [1, 0]
theorem r5_1_ok : dstOk 172 r5_1.toList = true ∧ r5_1.toList.all (fun o => noDefer o.op) = true := by decide +kernel
noncomputable def r5_2 : Array Oper := opsAt Try.f5 [1, 1, 0]
theorem r5_2_ok : dstOk 172 r5_2.toList = true ∧ r5_2.toList.all (fun o => noDefer o.op) = true := by decide +kernel
noncomputable def r5_3 : Array Oper := opsAt Try.f5 [1, 1, 1, 0]
theorem r5_3_ok : dstOk 172 r5_3.toList = true ∧ r5_3.toList.all (fun o => noDefer o.op) = true := by decide +kernel
noncomputable def r5_4 : Array Oper := opsAt Try.f5 [1, 1, 1, 1, 0, 0]
theorem r5_4_ok : dstOk 172 r5_4.toList = true ∧ r5_4.toList.all (fun o => noDefer o.op) = true := by decide +kernel
noncomputable def r5_5 : Array Oper := opsAt Try.f5 [1, 1, 1, 1, 0, 1, 0, 0]
theorem r5_5_ok : dstOk 172 r5_5.toList = true ∧ r5_5.toList.all (fun o => noDefer o.op) = true := by decide +kernel
noncomputable def r5_6 : Array Oper := opsAt Try.f5 [1, 1, 1, 1, 1, 0]
theorem r5_6_ok : dstOk 172 r5_6.toList = true ∧ r5_6.toList.all (fun o => noDefer o.op) = true := by decide +kernel
noncomputable def r5_7 : Array Oper := opsAt Try.f5 [1, 1, 1, 1, 1, 1, 0, 0]
theorem r5_7_ok : dstOk 172 r5_7.toList = true ∧ r5_7.toList.all (fun o => noDefer o.op) = true := by decide +kernel
noncomputable def r5_8 : Array Oper := opsAt Try.f5 [1, 1, 1, 1, 1, 1, 0, 1, 0, 0, 0, 0]
theorem r5_8_ok : dstOk 172 r5_8.toList = true ∧ r5_8.toList.all (fun o => noDefer o.op) = true := by decide +kernel
noncomputable def r5_10 : Array Oper := opsAt Try.f5 [1, 1, 1, 1, 1, 1, 0, 1, 0, 0, 1, 0, 0, 0]
theorem r5_10_ok : dstOk 172 r5_10.toList = true ∧ r5_10.toList.all (fun o => noDefer o.op) = true := by decide +kernel
noncomputable def r5_11 : Array Oper := opsAt Try.f5 [1, 1, 1, 1, 1, 1, 0, 1, 0, 0, 1, 0, 0, 1, 0, 0]
theorem r5_11_ok : dstOk 172 r5_11.toList = true ∧ r5_11.toList.all (fun o => noDefer o.op) = true := by decide +kernel
noncomputable def r5_12 : Array Oper := opsAt Try.f5 [1, 1, 1, 1, 1, 1, 0, 1, 0, 0, 1, 0, 0, 1, 0, 1, 0, 0]
theorem r5_12_ok : dstOk 172 r5_12.toList = true ∧ r5_12.toList.all (fun o => noDefer o.op) = true := by decide +kernel
noncomputable def r5_13 : Array Oper := opsAt Try.f5 [1, 1, 1, 1, 1, 1, 0, 1, 0, 0, 1, 0, 0, 1, 1, 0, 0]
theorem r5_13_ok : dstOk 172 r5_13.toList = true ∧ r5_13.toList.all (fun o => noDefer o.op) = true := by decide +kernel
noncomputable def r5_14 : Array Oper := opsAt Try.f5 [1, 1, 1, 1, 1, 1, 0, 1, 0, 0, 1, 0, 0, 1, 1, 0, 1, 0]
theorem r5_14_ok : dstOk 172 r5_14.toList = true ∧ r5_14.toList.all (fun o => noDefer o.op) = true := by decide +kernel
noncomputable def r5_16 : Array Oper := opsAt Try.f5 [1, 1, 1, 1, 1, 1, 0, 1, 0, 0, 1, 0, 0, 1, 1, 0, 1, 1, 0, 0]
theorem r5_16_ok : dstOk 172 r5_16.toList = true ∧ r5_16.toList.all (fun o => noDefer o.op) = true := by decide +kernel
noncomputable def r5_17 : Array Oper := opsAt Try.f5 [1, 1, 1, 1, 1, 1, 0, 1, 0, 0, 1, 0, 0, 1, 1, 0, 1, 1, 0, 1, 0, 0, 0]
theorem r5_17_ok : dstOk 172 r5_17.toList = true ∧ r5_17.toList.all (fun o => noDefer o.op) = true := by decide +kernel
noncomputable def r5_18 : Array Oper := opsAt Try.f5 [1, 1, 1, 1, 1, 1, 0, 1, 0, 0, 1, 0, 0, 1, 1, 0, 1, 1, 0, 1, 0, 0, 1, 0, 0]
theorem r5_18_ok : dstOk 172 r5_18.toList = true ∧ r5_18.toList.all (fun o => noDefer o.op) = true := by decide +kernel
noncomputable def r5_19 : Array Oper := opsAt Try.f5 [1, 1, 1, 1, 1, 1, 0, 1, 0, 0, 1, 0, 0, 1, 1, 0, 1, 1, 0, 1, 0, 1, 0]
theorem r5_19_ok : dstOk 172 r5_19.toList = true ∧ r5_19.toList.all (fun o => noDefer o.op) = true := by decide +kernel
noncomputable def r5_20 : Array Oper := opsAt Try.f5 [1, 1, 1, 1, 1, 1, 0, 1, 0, 0, 1, 0, 0, 1, 1, 0, 1, 1, 0, 1, 0, 1, 1, 0]
theorem r5_20_ok : dstOk 172 r5_20.toList = true ∧ r5_20.toList.all (fun o => noDefer o.op) = true := by decide +kernel
noncomputable def r5_21 : Array Oper := opsAt Try.f5 [1, 1, 1, 1, 1, 1, 0, 1, 0, 0, 1, 0, 0, 1, 1, 0, 1, 1, 0, 1, 1, 0]
theorem r5_21_ok : dstOk 172 r5_21.toList = true ∧ r5_21.toList.all (fun o => noDefer o.op) = true := by decide +kernel
noncomputable def r5_22 : Array Oper := opsAt Try.f5 [1, 1, 1, 1, 1, 1, 0, 1, 0, 0, 1, 0, 0, 1, 1, 0, 1, 1, 0, 1, 1, 1, 0, 0, 0]
theorem r5_22_ok : dstOk 172 r5_22.toList = true ∧ r5_22.toList.all (fun o => noDefer o.op) = true := by decide +kernel
noncomputable def r5_23 : Array Oper := opsAt Try.f5 [1, 1, 1, 1, 1, 1, 0, 1, 0, 0, 1, 0, 0, 1, 1, 0, 1, 1, 0, 1, 1, 1, 0, 0, 1, 0, 0]
theorem r5_23_ok : dstOk 172 r5_23.toList = true ∧ r5_23.toList.all (fun o => noDefer o.op) = true := by decide +kernel
noncomputable def r5_24 : Array Oper := opsAt Try.f5 [1, 1, 1, 1, 1, 1, 0, 1, 0, 0, 1, 0, 0, 1, 1, 0, 1, 1, 0, 1, 1, 1, 0, 1]
theorem r5_24_ok : dstOk 172 r5_24.toList = true ∧ r5_24.toList.all (fun o => noDefer o.op) = true := by decide +kernel
noncomputable def r5_25 : Array Oper := opsAt Try.f5 [1, 1, 1, 1, 1, 1, 0, 1, 0, 0, 1, 0, 0, 1, 1, 0, 1, 1, 0, 1, 1, 1, 1, 0]
theorem r5_25_ok : dstOk 172 r5_25.toList = true ∧ r5_25.toList.all (fun o => noDefer o.op) = true := by decide +kernel
noncomputable def r5_26 : Array Oper := opsAt Try.f5 [1, 1, 1, 1, 1, 1, 0, 1, 0, 0, 1, 0, 0, 1, 1, 0, 1, 1, 0, 1, 1, 1, 1, 1, 0, 0]
theorem r5_26_ok : dstOk 172 r5_26.toList = true ∧ r5_26.toList.all (fun o => noDefer o.op) = true := by decide +kernel
noncomputable def r5_27 : Array Oper := opsAt Try.f5 [1, 1, 1, 1, 1, 1, 0, 1, 0, 0, 1, 0, 0, 1, 1, 0, 1, 1, 0, 1, 1, 1, 1, 1, 0, 1, 0, 0]
theorem r5_27_ok : dstOk 172 r5_27.toList = true ∧ r5_27.toList.all (fun o => noDefer o.op) = true := by decide +kernel
noncomputable def r5_28 : Array Oper := opsAt Try.f5 [1, 1, 1, 1, 1, 1, 0, 1, 0, 0, 1, 0, 0, 1, 1, 0, 1, 1, 0, 1, 1, 1, 1, 1, 1, 0]
theorem r5_28_ok : dstOk 172 r5_28.toList = true ∧ r5_28.toList.all (fun o => noDefer o.op) = true := by decide +kernel
noncomputable def r5_29 : Array Oper := opsAt Try.f5 [1, 1, 1, 1, 1, 1, 0, 1, 0, 0, 1, 0, 0, 1, 1, 0, 1, 1, 0, 1, 1, 1, 1, 1, 1, 1, 0, 0]
theorem r5_29_ok : dstOk 172 r5_29.toList = true ∧ r5_29.toList.all (fun o => noDefer o.op) = true := by decide +kernel
noncomputable def r5_30 : Array Oper := opsAt Try.f5 [1, 1, 1, 1, 1, 1, 0, 1, 0, 0, 1, 0, 0, 1, 1, 0, 1, 1, 0, 1, 1, 1, 1, 1, 1, 1, 0, 1, 0, 0]
theorem r5_30_ok : dstOk 172 r5_30.toList = true ∧ r5_30.toList.all (fun o => noDefer o.op) = true := by decide +kernel
noncomputable def r5_15 : Array Oper := opsAt Try.f5 [1, 1, 1, 1, 1, 1, 0, 1, 0, 0, 1, 0, 0, 1, 1, 0, 1, 1, 0, 1, 1, 1, 1, 1, 1, 1, 1, 0]
theorem r5_15_ok : dstOk 172 r5_15.toList = true ∧ r5_15.toList.all (fun o => noDefer o.op) = true := by decide +kernel
noncomputable def r5_31 : Array Oper := opsAt Try.f5 [1, 1, 1, 1, 1, 1, 0, 1, 0, 0, 1, 0, 0, 1, 1, 1]
theorem r5_31_ok : dstOk 172 r5_31.toList = true ∧ r5_31.toList.all (fun o => noDefer o.op) = true := by decide +kernel
noncomputable def r5_9 : Array Oper := opsAt Try.f5 [1, 1, 1, 1, 1, 1, 0, 1, 0, 0, 1, 1]
theorem r5_9_ok : dstOk 172 r5_9.toList = true ∧ r5_9.toList.all (fun o => noDefer o.op) = true := by decide +kernel
noncomputable def b5_0 : Code := (.seq (.seq (.region 8 r5_8 false) (.cond (.tmp 41) .skip (.exit 0))) (.seq (.block 1 (.seq (.region 10 r5_10 false) (.seq (.seq (.region 11 r5_11 true) (.cond (.tmp 72) (.seq (.region 12 r5_12 false) .ret) .skip)) (.seq (.seq (.region 13 r5_13 false) (.seq (.region 14 r5_14 false) (.block 2 (.seq (.region 16 r5_16 false) (.cond (.tmp 77) (.seq (.seq (.region 17 r5_17 true) (.cond (.tmp 113) (.seq (.region 18 r5_18 false) .ret) .skip)) (.seq (.region 19 r5_19 false) (.seq (.region 20 r5_20 false) (.exit 1)))) (.seq (.region 21 r5_21 false) (.cond (.tmp 119) (.seq (.seq (.region 22 r5_22 true) (.cond (.tmp 133) (.seq (.region 23 r5_23 false) .ret) .skip)) (.region 24 r5_24 false)) (.seq (.region 25 r5_25 false) (.cond (.tmp 140) (.seq (.region 26 r5_26 true) (.cond (.tmp 158) (.seq (.region 27 r5_27 false) .ret) .skip)) (.seq (.region 28 r5_28 false) (.cond (.tmp 159) (.seq (.region 29 r5_29 false) (.cond (.tmp 162) (.seq (.region 30 r5_30 false) .ret) .skip)) (.seq (.region 15 r5_15 false) .ret)))))))))))) (.region 31 r5_31 false))))) (.region 9 r5_9 false)))
noncomputable def r5_32 : Array Oper := opsAt Try.f5 [1, 1, 1, 1, 1, 1, 1, 0]
theorem r5_32_ok : dstOk 172 r5_32.toList = true ∧ r5_32.toList.all (fun o => noDefer o.op) = true := by decide +kernel
noncomputable def c5 : Code := (.seq (.region 0 r5_0 false) (.seq (.region 1 r5_1 false) (.seq (.region 2 r5_2 false) (.seq (.region 3 r5_3 false) (.seq (.seq (.region 4 r5_4 false) (.cond (.tmp 33) (.seq (.region 5 r5_5 false) .ret) .skip)) (.seq (.region 6 r5_6 false) (.seq (.seq (.region 7 r5_7 false) (.block 0 (.loop b5_0))) (.seq (.region 32 r5_32 false) .ret))))))))
theorem body5 : Try.f5.body = some c5 := by kernel_rfl
theorem events_ok (bc : Fl) (caps : List Int) (hlc : caps.length ≤ 9223372036854775807) (hxc : ∀ x ∈ caps, u8r x) (bl : Fl) (l : List Int) (hll : l.length ≤ 9223372036854775807) (hxl : ∀ x ∈ l, u8r x) (x : Int) (hx : 0 ≤ x ∧ x ≤ 255) : PureCall Try.prog GL 5 [.sl 1 bc (caps.map u8AV), .sl 1 bl (l.map u8AV), .raw (.int .u8 x)] (.raw (.bool true)) := by
  refine pure_of_body Try.func5 body5 (Nat.le_of_ble_eq_true rfl) (by simp) (by simp) ?_
  refine w_keep [(0, .sl 1 bc (caps.map u8AV)), (1, .sl 1 bl (l.map u8AV)), (2, .raw (.int .u8 x))] ⟨rfl, rfl, rfl, trivial⟩ ?_
  unfold c5
  obtain ⟨cs, hcs⟩ : ∃ cs, cs = machF caps := ⟨_, rfl⟩
  obtain ⟨hc0, hc12, hc16⟩ := machF_in hxc
  have hrt := machF_right hxc
  rw [← hcs] at hc0 hc12 hc16 hrt
  obtain ⟨L, hL⟩ : ∃ L, L = fedF cs l := ⟨_, rfl⟩
  have hLl := fedF_len cs l
  have hLi := fedF_in cs l
  have hLw := fedF_wrong cs l
  have hLd := fedF_nodup cs l
  rw [← hL] at hLl hLi hLw hLd
  have hpos : ∀ c ∈ cs, 1 ≤ c := fun c hc => (hc16 c hc).1
  have hin : ∀ x ∈ L, x.stk < cs.length := fun x hx => (hLi x hx).2
  obtain ⟨sw, hsw⟩ : ∃ sw : Int, sw = x % 201 := ⟨_, rfl⟩
  have hsw0 : 0 ≤ sw ∧ sw ≤ 200 := by omega
  obtain ⟨S, hS⟩ : ∃ S, S = playF cs sw L := ⟨_, rfl⟩
  have hcount := playF_count (sw := sw) (by omega) hpos hin
  have hnd := playF_nodup (sw := sw) (by omega) hpos hin hLd
  have hiv := playS_inv (sw := sw) hpos (by omega) hin L.length (Nat.le_refl _)
  rw [playS_all] at hiv
  rw [← hS] at hcount hnd hiv
  have hir := hiv.rows; have his := hiv.swept
  have hall : S.rows.flatten.length + S.over.length + S.rej.length = L.length := by simp only [allM, List.length_append] at hcount; exact hcount
  have hrb : ∀ r ∈ allR S, r.length ≤ 1000000 := fun r hr => by
    have h1 : r.length ≤ (allR S).flatten.length := (List.sublist_flatten_of_mem hr).length_le
    rw [allR_flat, hcount] at h1; omega
  have hlist : ∀ k (h : k < S.rows.length), S.rows[k].length ≤ 150 := fun k h => by
    have h1 : S.rows[k].length ≤ S.rows.flatten.length := (List.sublist_flatten_of_mem (List.getElem_mem h)).length_le
    omega
  have hel : S.ev.length ≤ 300 := by
    have := (playS_ok cs sw (by omega) (by omega) L L.length (Nat.le_refl _)).el
    rw [playS_all, ← hS] at this; omega
  have hq0 := EvI.start hpos hLi hsw0.1 (show sw ≤ 1000 by omega)
  rw [← hS] at hq0
  refine awp_seq ?_
  refine w_reg (l := r5_0.toList) rfl r5_0_ok ?_
  refine a_op rfl (o_as rfl) ?_
  refine a_nil ?_
  refine tq_n ?_
  refine awp_seq ?_
  refine w_reg (l := r5_1.toList) rfl r5_1_ok ?_
  refine a_op rfl (o_mv rfl) ?_
  refine a_pure rfl rfl rfl cb27 (machine_ok bc caps hlc hxc) ?_
  rw [← hcs]
  refine a_op rfl (o_as rfl) ?_
  refine a_nil ?_
  refine tq_n ?_
  refine awp_seq ?_
  refine w_reg (l := r5_2.toList) rfl r5_2_ok ?_
  refine a_op rfl (o_mv rfl) ?_
  refine a_op rfl (o_mv rfl) ?_
  refine a_pure rfl rfl rfl cb28 (fed_ok _ cs (by omega) bl l hll hxl) ?_
  rw [← hL]
  refine a_op rfl (o_mv rfl) ?_
  refine a_op rfl (o_rem rfl rfl (by omega) (by omega)) ?_
  rw [← hsw]
  refine a_op rfl (o_cv tk5 tk3 rfl (by simp only [klo, khi]; omega)) ?_
  refine a_op rfl (o_as rfl) ?_
  refine a_op rfl (o_as rfl) ?_
  refine a_nil ?_
  refine tq_n ?_
  refine awp_seq ?_
  refine w_reg (l := r5_3.toList) rfl r5_3_ok ?_
  refine a_op rfl (o_mv rfl) ?_
  refine a_op rfl (o_mv rfl) ?_
  refine a_op rfl (o_mv rfl) ?_
  refine a_pure rfl rfl rfl cb29 (run_good _ cs sw _ L hrt (by omega) (by omega) hLw) ?_
  rw [← hS]
  refine a_op rfl (o_mv rfl) ?_
  refine a_op rfl (o_ex rfl rfl) ?_
  refine a_op rfl (o_ex rfl rfl) ?_
  refine a_op rfl (o_al (N := 0) tz60 rfl rfl rfl) ?_
  refine a_op0 rfl (o_st (N := 4) tn60 rfl rfl rfl rfl rfl) ?_
  refine a_op rfl (o_as rfl) ?_
  refine a_nil ?_
  refine tq_n ?_
  refine awp_seq ?_
  refine awp_seq ?_
  refine w_reg (l := r5_4.toList) rfl r5_4_ok ?_
  refine a_op rfl (o_mv rfl) ?_
  refine a_op rfl (elD (o_ne rfl rfl) (w := .raw (.bool false)) rfl) ?_
  refine a_nil ?_
  refine tq_n ?_
  refine w_false rfl ?_
  refine awp_skip ?_
  refine tq_n ?_
  refine awp_seq ?_
  refine w_reg (l := r5_6.toList) rfl r5_6_ok ?_
  refine a_op rfl (o_mv rfl) ?_
  refine a_op rfl (o_len rfl rfl (by first | exact List.length_map .. | rfl) tl34) ?_
  refine a_opH rfl (o_ms (N := 1) tE34 rfl rfl (by omega) (by omega) (by omega) (by omega) rfl rfl) (H' := [.var [.sl 1 false (S.rows.map rowAV), rowAV S.swept, rowAV S.over, rowAV S.rej, .sl 3 false (S.ev.map evAV)], .vec 1 0 ((List.replicate cs.length 0).map intAV)]) (by simp [intAV, passAV, AV.cells]) ?_
  rw [show ((cs.length : Nat) : Int).toNat = cs.length by omega]
  refine a_op rfl (o_as rfl) ?_
  refine a_op rfl (o_as rfl) ?_
  refine a_nil ?_
  refine tq_n ?_
  refine awp_seq ?_
  refine awp_seq ?_
  refine w_reg (l := r5_7.toList) rfl r5_7_ok ?_
  refine a_op rfl (o_as rfl) ?_
  refine a_nil ?_
  refine tq_n ?_
  refine awp_block ?_
  refine w_loop (fun q : EvS => EvI cs L S.ev q) (fun q => [(7, rowAV cs), (8, .sl 2 false (L.map feedAV)), (9, .raw (.int .i64 (q.s))), (10, .ptr 0 0), (12, .slo 1 0 0 cs.length), (13, .raw (.int .i64 ((q.n : Nat) : Int))), (14, .raw (.int .i64 ((q.i : Nat) : Int)))]) (fun q => [.var [.sl 1 false (S.rows.map rowAV), rowAV S.swept, rowAV S.over, rowAV S.rej, .sl 3 false (S.ev.map evAV)], .vec 1 0 ((q.load).map intAV)]) (fun q => S.ev.length - q.i) (⟨0, 0, List.replicate cs.length 0, sw⟩) hq0 ⟨(by first | exact sub_int rfl (by omega) | rfl), (by first | exact sub_int rfl (by omega) | rfl), (by first | exact sub_int rfl (by omega) | rfl), (by first | exact sub_int rfl (by omega) | rfl), (by first | exact sub_int rfl (by omega) | rfl), (by first | exact sub_int rfl (by omega) | rfl), (by first | exact sub_int rfl (by omega) | rfl), trivial⟩ rfl ?_
  intro q hp
  have hqs := hp.hs; have hqi := hp.hi; have hqn := hp.hn
  unfold b5_0
  refine awp_seq ?_
  refine awp_seq ?_
  refine w_reg (l := r5_8.toList) rfl r5_8_ok ?_
  refine a_op rfl (o_mv rfl) ?_
  refine a_op rfl ((by first | exact o_fa tf60_4 rfl rfl | exact o_fap tf60_4 rfl rfl)) ?_
  refine a_op rfl ((by first | exact o_ld tg58 rfl rfl | exact o_ldp tg58 rfl rfl rfl rfl)) ?_
  refine a_op rfl (o_len rfl rfl (by first | exact List.length_map .. | rfl) tl58) ?_
  refine a_if rfl (o_lt rfl rfl) (fun h1 => ?_) (fun h2 => ?_)
  · refine a_nil ?_
    refine tq_n ?_
    refine w_true rfl ?_
    refine awp_skip ?_
    refine tq_n ?_
    refine awp_seq ?_
    refine awp_block ?_
    refine awp_seq ?_
    have hi : q.i < S.ev.length := by omega
    obtain ⟨hn, hit, hst, hA, hB, hC, hD, hK⟩ := hp.at hi
    have hll := hp.hl
    refine w_reg (l := r5_10.toList) rfl r5_10_ok ?_
    refine a_op rfl ((by first | exact o_fa tf60_4 rfl rfl | exact o_fap tf60_4 rfl rfl)) ?_
    refine a_op rfl ((by first | exact o_ld tg58 rfl rfl | exact o_ldp tg58 rfl rfl rfl rfl)) ?_
    refine a_op rfl (o_mv rfl) ?_
    refine a_op rfl (o_ix te58 tn79 rfl rfl rfl (ixm _ _ _ hi)) ?_
    refine a_op rfl ((by first | exact o_ldg tg79 tn79 rfl rfl | exact o_ldpg tg79 tn79 rfl rfl rfl rfl)) ?_
    refine a_op rfl (o_al (N := 2) tz79 rfl rfl rfl) ?_
    refine a_op0 rfl (o_st (N := 2) tn79 rfl rfl rfl rfl rfl) ?_
    refine a_nil ?_
    refine tq_n ?_
    refine awp_seq ?_
    refine awp_seq ?_
    refine awp_draw ⟨[[], [], [1], [0, 1, 2], [0, 1, 2, 3], [0, 1, 2, 3, 4], [0, 1, 2, 3, 4, 5], [0, 1, 2, 3, 4], [0, 1, 2, 3, 4], [0, 1, 2, 3, 4, 7, 8], [0, 1, 2, 3, 4, 7, 8, 9], [0, 1, 2, 3, 4, 7, 8, 9, 10], [0, 1, 2, 3, 4, 5, 6, 7, 8, 9, 10, 11], [0, 1, 2, 3, 4, 5, 6, 7, 8, 9, 10, 11, 12], [0, 1, 2, 3, 4, 5, 6, 7, 8, 9, 10, 11, 12, 13], [0, 1, 2, 3, 4, 5, 6, 7, 8, 9, 10, 11, 12, 13, 14], [0, 1, 2, 3, 4, 5, 6, 7, 8, 9, 10, 11, 12, 13, 14, 15], [0, 1, 2, 3, 4, 5, 6, 7, 8, 9, 10, 11, 12, 13, 14], [0, 1, 2, 3, 4, 5, 6, 7, 8, 9, 10, 11, 12, 13, 14], [0, 1, 2, 3, 4, 5, 6, 7, 8, 9, 10, 11, 12, 13, 14, 17, 18], [0, 1, 2, 3, 4, 5, 6, 7, 8, 9, 10, 11, 12, 13, 14, 17, 18, 19], [0, 1, 2, 3, 4, 5, 6, 7, 8, 9, 10, 11, 12, 13, 14, 17, 18, 19, 20], [0, 1, 2, 3, 4, 5, 6, 7, 8, 9, 10, 11, 12, 13, 14, 15, 16, 17, 18, 19, 20, 21], [0, 1, 2, 3, 4, 5, 6, 7, 8, 9, 10, 11, 12, 13, 14, 15, 16, 17, 18, 19, 20, 21, 22]], [[13], [8], [50], [49, 51], [52], [15, 53], [53, 54], [8, 53], [13, 53], [53, 56, 57], [53, 58], [53, 59], [53, 55, 60], [53, 61], [62], [15, 63], [63, 64], [8, 63], [13, 63], [63, 66, 67], [63, 68], [63, 69], [63, 65, 70], [63, 71]], [[], [], [], [], [], [], [2], [], [], [], [], [], [], [], [], [], [2], [], [], [], [], [], [], []], [none, none, none, none, none, none, none, none, none, none, none, none, none, none, none, none, none, none, none, none, none, none, none, none]⟩ mo r5_11_ok (by decide +kernel) (l := r5_11.toList) rfl ?_
    refine d_op rfl rfl rfl (fun _ => o_mv rfl) ?_
    refine d_op rfl rfl rfl (fun _ => o_mv rfl) ?_
    refine d_op rfl rfl rfl (fun _ => o_len rfl rfl (by first | exact List.length_map .. | rfl) tl68) ?_
    refine d_if rfl rfl rfl (fun _ => o_ge rfl rfl) (fun h3 => ?_) (fun h4 => ?_)
    · omega
    refine d_op rfl rfl rfl (fun _ => o_mv rfl) ?_
    refine d_op rfl rfl rfl (fun _ => (by first | exact o_fa tf79_1 rfl rfl | exact o_fap tf79_1 rfl rfl)) ?_
    refine d_op rfl rfl rfl (fun _ => (by first | exact o_ld tg3 rfl rfl | exact o_ldp tg3 rfl rfl rfl rfl)) ?_
    refine d_op rfl rfl rfl (fun _ => o_mv rfl) ?_
    refine d_op rfl rfl rfl (fun _ => o_mv rfl) ?_
    refine d_op rfl rfl rfl (fun _ => o_ix te68 tn75 rfl rfl rfl (ixm _ _ _ hn)) ?_
    refine d_op rfl rfl rfl (fun _ => (by first | exact o_fa tf75_0 rfl rfl | exact o_fap tf75_0 rfl rfl)) ?_
    refine d_op rfl rfl rfl (fun _ => (by first | exact o_ld tg3 rfl rfl | exact o_ldp tg3 rfl rfl rfl rfl)) ?_
    refine d_if rfl rfl rfl (fun _ => o_ne rfl rfl) (fun h5 => ?_) (fun h6 => ?_)
    · omega
    refine d_op rfl rfl rfl (fun _ => o_pkf rfl rfl) ?_
    refine d_op rfl rfl rfl (fun _ => o_mv rfl) ?_
    refine d_op rfl rfl rfl (fun _ => (by first | exact o_fa tf79_2 rfl rfl | exact o_fap tf79_2 rfl rfl)) ?_
    refine d_op rfl rfl rfl (fun _ => (by first | exact o_ld tg3 rfl rfl | exact o_ldp tg3 rfl rfl rfl rfl)) ?_
    refine d_op rfl rfl rfl (fun _ => o_mv rfl) ?_
    refine d_op rfl rfl rfl (fun _ => o_mv rfl) ?_
    refine d_op rfl rfl rfl (fun _ => o_ix te68 tn75 rfl rfl rfl (ixm _ _ _ hn)) ?_
    refine d_op rfl rfl rfl (fun _ => (by first | exact o_fa tf75_1 rfl rfl | exact o_fap tf75_1 rfl rfl)) ?_
    refine d_op rfl rfl rfl (fun _ => (by first | exact o_ld tg3 rfl rfl | exact o_ldp tg3 rfl rfl rfl rfl)) ?_
    refine d_if rfl rfl rfl (fun _ => o_ne rfl rfl) (fun h7 => ?_) (fun h8 => ?_)
    · omega
    refine d_op rfl rfl rfl (fun _ => o_pkf rfl rfl) ?_
    refine d_nil ?_
    refine tq_n ?_
    refine w_false rfl ?_
    refine awp_skip ?_
    refine tq_n ?_
    refine awp_seq ?_
    refine awp_seq ?_
    refine w_reg (l := r5_13.toList) rfl r5_13_ok ?_
    refine a_op rfl ((by first | exact o_fa tf79_2 rfl rfl | exact o_fap tf79_2 rfl rfl)) ?_
    refine a_op rfl ((by first | exact o_ld tg3 rfl rfl | exact o_ldp tg3 rfl rfl rfl rfl)) ?_
    refine a_op rfl (o_as rfl) ?_
    refine a_nil ?_
    refine tq_n ?_
    refine awp_seq ?_
    refine w_reg (l := r5_14.toList) rfl r5_14_ok ?_
    refine a_op rfl ((by first | exact o_fa tf79_0 rfl rfl | exact o_fap tf79_0 rfl rfl)) ?_
    refine a_op rfl ((by first | exact o_ld tg5 rfl rfl | exact o_ldp tg5 rfl rfl rfl rfl)) ?_
    refine a_nil ?_
    refine tq_n ?_
    refine awp_block ?_
    refine awp_seq ?_
    refine w_reg (l := r5_16.toList) rfl r5_16_ok ?_
    refine a_if rfl (o_eq rfl rfl) (fun h9 => ?_) (fun h10 => ?_)
    · refine a_op rfl (o_as rfl) ?_
      refine a_nil ?_
      refine tq_n ?_
      refine w_true rfl ?_
      refine awp_seq ?_
      refine awp_seq ?_
      obtain ⟨k, hk, hkc, hkl, hle, hs1, ⟨hi2, hk1⟩, hnx⟩ := hA (by assumption)
      clear hA hB hC hD
      refine awp_draw ⟨[[], [0], [0, 1], [0, 1, 2], [0, 1, 2], [0, 1, 2, 3, 4], [0, 1, 2, 3, 4, 5], [0, 1, 2], [0, 1, 2], [0, 1, 2, 7, 8], [0, 1, 2, 7, 8, 9], [0, 1, 2, 3, 4, 5, 6, 7, 8, 9, 10], [0, 1, 2, 3, 4, 5, 6, 7, 8, 9, 10, 11], [0, 1, 2, 3, 4, 5, 6, 7, 8, 9, 10, 11, 12], [0, 1, 2, 3, 4, 5, 6, 7, 8, 9, 10, 11, 12, 13], [0, 1, 2, 3, 4, 5, 6, 7, 8, 9, 10, 11, 12, 13, 14], [0, 1, 2, 3, 4, 5, 6, 7, 8, 9, 10, 11, 12, 13, 14, 15], [0, 1, 2, 3, 4, 5, 6, 7, 8, 9, 10, 11, 12, 13, 14, 15, 16], [0, 1, 2, 3, 4, 5, 6, 7, 8, 9, 10, 11, 12, 13, 14, 15, 16, 17], [0, 1, 2, 3, 4, 5, 6, 7, 8, 9, 10, 11, 12, 13, 14, 15, 16, 17, 18], [0, 1, 2, 3, 4, 5, 6, 7, 8, 9, 10, 11, 12, 13, 14, 15, 16, 17], [0, 1, 2, 3, 4, 5, 6, 7, 8, 9, 10, 11, 12, 13, 14, 15, 16, 17, 20], [0, 1, 2, 3, 4, 5, 6, 7, 8, 9, 10, 11, 12, 13, 14, 15, 16, 17, 20, 21], [0, 1, 2, 3, 4, 5, 6, 7, 8, 9, 10, 11, 12, 13, 14, 15, 16, 17, 18, 19, 20, 21, 22], [0, 1, 2, 3, 4, 5, 6, 7, 8, 9, 10, 11, 12, 13, 14, 15, 16, 17, 18, 19, 20, 21, 22, 23], [0, 1, 2, 3, 4, 5, 6, 7, 8, 9, 10, 11, 12, 13, 14, 15, 16, 17, 18, 19, 20, 21, 22, 23, 24], [0, 1, 2, 3, 4, 5, 6, 7, 8, 9, 10, 11, 12, 13, 14, 15, 16, 17, 18, 19, 20, 21, 22, 23, 24, 25], [0, 1, 2, 3, 4, 5, 6, 7, 8, 9, 10, 11, 12, 13, 14, 15, 16, 17, 18, 19, 20, 21, 22, 23, 24, 25, 26], [0, 1, 2, 3, 4, 5, 6, 7, 8, 9, 10, 11, 12, 13, 14, 15, 16, 17, 18, 19, 20, 21, 22, 23, 24, 25], [0, 1, 2, 3, 4, 5, 6, 7, 8, 9, 10, 11, 12, 13, 14, 15, 16, 17, 18, 19, 20, 21, 22, 23, 24, 25, 28], [0, 1, 2, 3, 4, 5, 6, 7, 8, 9, 10, 11, 12, 13, 14, 15, 16, 17, 18, 19, 20, 21, 22, 23, 24, 25, 26, 27, 28, 29], [0, 1, 2, 3, 4, 5, 6, 7, 8, 9, 10, 11, 12, 13, 14, 15, 16, 17, 18, 19, 20, 21, 22, 23, 24, 25, 26, 27, 28, 29, 30], [0, 1, 2, 3, 4, 5, 6, 7, 8, 9, 10, 11, 12, 13, 14, 15, 16, 17, 18, 19, 20, 21, 22, 23, 24, 25, 26, 27, 28, 29, 30, 31], [0, 1, 2, 3, 4, 5, 6, 7, 8, 9, 10, 11, 12, 13, 14, 15, 16, 17, 18, 19, 20, 21, 22, 23, 24, 25, 26, 27, 28, 29, 30, 31, 32], [0, 1, 2, 3, 4, 5, 6, 7, 8, 9, 10, 11, 12, 13, 14, 15, 16, 17, 18, 19, 20, 21, 22, 23, 24, 25, 26, 27, 28, 29, 30, 31, 32, 33]], [[16], [79], [80], [12, 81], [16, 81], [81, 82, 83], [81, 84], [7, 81], [16, 81], [81, 86, 87], [81, 88], [81, 85, 89], [81, 90], [91], [9, 92], [92, 93], [92, 94], [95], [14, 96], [96, 97], [10, 96], [96, 99], [96, 100], [96, 98, 101], [96, 102], [103], [10, 104], [104, 105], [14, 104], [104, 107], [104, 106, 108], [104, 109], [104, 110], [104, 111], [104, 112]], [[], [], [], [], [], [1], [1], [], [], [], [], [], [], [], [], [], [], [], [], [], [], [0], [], [], [], [], [], [0], [], [], [], [], [], [], []], [none, none, none, none, none, none, none, none, none, none, none, none, none, none, none, none, none, none, none, none, none, none, none, none, none, none, none, none, none, none, none, none, none, none, none]⟩ mo r5_17_ok (by decide +kernel) (l := r5_17.toList) rfl ?_
      refine d_op rfl rfl rfl (fun _ => o_mv rfl) ?_
      refine d_if rfl rfl rfl (fun _ => o_lt rfl rfl) (fun h11 => ?_) (fun h12 => ?_)
      · omega
      refine d_op rfl rfl rfl (fun _ => o_mv rfl) ?_
      refine d_op rfl rfl rfl (fun _ => o_mv rfl) ?_
      refine d_op rfl rfl rfl (fun _ => o_mv rfl) ?_
      refine d_op rfl rfl rfl (fun _ => o_ixo (j := k) te34 tn3 rfl rfl rfl hk (by omega)) ?_
      refine d_op rfl rfl rfl (fun _ => o_ldp (el := intAV q.load[k]) tg3 rfl rfl (by rw [Nat.zero_add]; exact mAt hkl) rfl) ?_
      refine d_op rfl rfl rfl (fun _ => o_mv rfl) ?_
      refine d_op rfl rfl rfl (fun _ => o_mv rfl) ?_
      refine d_op rfl rfl rfl (fun _ => o_ix te34 tn3 rfl rfl hk (ixm _ _ _ hkc)) ?_
      refine d_op rfl rfl rfl (fun _ => (by first | exact o_ld tg3 rfl rfl | exact o_ldp tg3 rfl rfl rfl rfl)) ?_
      refine d_if rfl rfl rfl (fun _ => o_ne rfl rfl) (fun h13 => ?_) (fun h14 => ?_)
      · omega
      refine d_op rfl rfl rfl (fun _ => o_pkf rfl rfl) ?_
      refine d_op rfl rfl rfl (fun _ => o_mv rfl) ?_
      refine d_op rfl rfl rfl (fun _ => o_mv rfl) ?_
      refine d_if rfl rfl rfl (fun _ => o_eq rfl rfl) (fun h15 => ?_) (fun h16 => ?_)
      · omega
      refine d_op rfl rfl rfl (fun _ => o_pkf rfl rfl) ?_
      refine d_op rfl rfl rfl (fun _ => o_mv rfl) ?_
      refine d_op rfl rfl rfl (fun _ => o_mv rfl) ?_
      refine d_op rfl rfl rfl (fun _ => o_add rfl rfl (by simp only [klo, khi]; omega)) ?_
      refine d_op rfl rfl rfl (fun _ => (by first | exact o_fa tf60_4 rfl rfl | exact o_fap tf60_4 rfl rfl)) ?_
      refine d_op rfl rfl rfl (fun _ => (by first | exact o_ld tg58 rfl rfl | exact o_ldp tg58 rfl rfl rfl rfl)) ?_
      refine d_op rfl rfl rfl (fun _ => o_len rfl rfl (by first | exact List.length_map .. | rfl) tl58) ?_
      refine d_if rfl rfl rfl (fun _ => o_eq rfl rfl) (fun h17 => ?_) (fun h18 => ?_)
      · omega
      refine d_op rfl rfl rfl (fun _ => o_pkf rfl rfl) ?_
      refine d_op rfl rfl rfl (fun _ => o_mv rfl) ?_
      refine d_op rfl rfl rfl (fun _ => (by first | exact o_fa tf60_4 rfl rfl | exact o_fap tf60_4 rfl rfl)) ?_
      refine d_op rfl rfl rfl (fun _ => (by first | exact o_ld tg58 rfl rfl | exact o_ldp tg58 rfl rfl rfl rfl)) ?_
      refine d_op rfl rfl rfl (fun _ => o_mv rfl) ?_
      refine d_op rfl rfl rfl (fun _ => o_add rfl rfl (by simp only [klo, khi]; omega)) ?_
      refine d_op rfl rfl rfl (fun _ => o_ix te58 tn79 rfl rfl (j := q.i + 1) (by omega) (ixm _ _ _ hi2)) ?_
      refine d_op rfl rfl rfl (fun _ => (by first | exact o_fa tf79_0 rfl rfl | exact o_fap tf79_0 rfl rfl)) ?_
      refine d_op rfl rfl rfl (fun _ => (by first | exact o_ld tg5 rfl rfl | exact o_ldp tg5 rfl rfl rfl rfl)) ?_
      refine d_if rfl rfl rfl (fun _ => o_ne rfl rfl) (fun h19 => ?_) (fun h20 => ?_)
      · omega
      refine d_op rfl rfl rfl (fun _ => o_pkf rfl rfl) ?_
      refine d_nil ?_
      refine tq_n ?_
      refine w_false rfl ?_
      refine awp_skip ?_
      refine tq_n ?_
      refine awp_seq ?_
      refine w_reg (l := r5_19.toList) rfl r5_19_ok ?_
      refine a_op rfl (o_mv rfl) ?_
      refine a_op rfl (o_mv rfl) ?_
      refine a_op rfl (o_ixo (j := k) te34 tn3 rfl rfl rfl hk (by omega)) ?_
      refine a_opH0 rfl (o_stp (N := 0) (el := intAV q.load[k]) tn3 rfl rfl rfl rfl rfl (by rw [Nat.zero_add]; exact mAt hkl) rfl (Nat.le_refl _)) (H' := [.var [.sl 1 false (S.rows.map rowAV), rowAV S.swept, rowAV S.over, rowAV S.rej, .sl 3 false (S.ev.map evAV)], .vec 1 0 ((q.load.set k (0)).map intAV), .var (evAV S.ev[q.i]).cells]) (by rw [Nat.zero_add, List.map_set]; rfl) ?_
      refine a_nil ?_
      refine tq_n ?_
      refine awp_seq ?_
      refine w_reg (l := r5_20.toList) rfl r5_20_ok ?_
      refine a_op rfl (o_mv rfl) ?_
      refine a_op rfl (o_sub rfl rfl (by simp only [klo, khi]; omega)) ?_
      refine a_op rfl (o_as rfl) ?_
      refine a_nil ?_
      refine tq_n ?_
      refine awp_exit ?_
      refine bq_miss rfl ?_
      refine tq_x ?_
      refine bq_hit ?_
      refine tq_n ?_
      refine w_view [(7, rowAV cs), (8, .sl 2 false (L.map feedAV)), (9, .raw (.int .i64 (q.s - 1))), (10, .ptr 0 0), (12, .slo 1 0 0 cs.length), (13, .raw (.int .i64 ((q.n : Nat) : Int))), (14, .raw (.int .i64 ((q.i : Nat) : Int)))] [.var [.sl 1 false (S.rows.map rowAV), rowAV S.swept, rowAV S.over, rowAV S.rej, .sl 3 false (S.ev.map evAV)], .vec 1 0 ((q.load.set k 0).map intAV)] 2 rfl (Nat.le_of_ble_eq_true rfl) (Nat.le_of_ble_eq_true rfl) ⟨⟨_, rfl, (by first | exact .mpK (Nat.le_of_ble_eq_true rfl) | exact .sloK (Nat.le_of_ble_eq_true rfl) | exact .ptrK (Nat.le_of_ble_eq_true rfl) | exact rs_pur (by simp) rfl)⟩, ⟨_, rfl, (by first | exact .mpK (Nat.le_of_ble_eq_true rfl) | exact .sloK (Nat.le_of_ble_eq_true rfl) | exact .ptrK (Nat.le_of_ble_eq_true rfl) | exact rs_pur (by simp) rfl)⟩, ⟨_, rfl, (by first | exact .mpK (Nat.le_of_ble_eq_true rfl) | exact .sloK (Nat.le_of_ble_eq_true rfl) | exact .ptrK (Nat.le_of_ble_eq_true rfl) | exact rs_pur (by simp) rfl)⟩, ⟨_, rfl, (by first | exact .mpK (Nat.le_of_ble_eq_true rfl) | exact .sloK (Nat.le_of_ble_eq_true rfl) | exact .ptrK (Nat.le_of_ble_eq_true rfl) | exact rs_pur (by simp) rfl)⟩, ⟨_, rfl, (by first | exact .mpK (Nat.le_of_ble_eq_true rfl) | exact .sloK (Nat.le_of_ble_eq_true rfl) | exact .ptrK (Nat.le_of_ble_eq_true rfl) | exact rs_pur (by simp) rfl)⟩, ⟨_, rfl, (by first | exact .mpK (Nat.le_of_ble_eq_true rfl) | exact .sloK (Nat.le_of_ble_eq_true rfl) | exact .ptrK (Nat.le_of_ble_eq_true rfl) | exact rs_pur (by simp) rfl)⟩, ⟨_, rfl, (by first | exact .mpK (Nat.le_of_ble_eq_true rfl) | exact .sloK (Nat.le_of_ble_eq_true rfl) | exact .ptrK (Nat.le_of_ble_eq_true rfl) | exact rs_pur (by simp) rfl)⟩, trivial⟩ ⟨ors_var ⟨rs_pur (by simp) rfl, rs_pur (by simp) rfl, rs_pur (by simp) rfl, rs_pur (by simp) rfl, rs_pur (by simp) rfl, trivial⟩, ors_vec (pu_int _), trivial⟩ ?_
      refine w_reg (l := r5_9.toList) rfl r5_9_ok ?_
      refine a_op rfl (o_mv rfl) ?_
      refine a_op rfl (o_add rfl rfl (by simp only [klo, khi]; omega)) ?_
      refine a_op rfl (o_as rfl) ?_
      refine a_nil ?_
      refine tq_n ?_
      exact ⟨⟨q.i + 1, q.n, q.load.set k 0, q.s - 1⟩, ⟨hnx, by dsimp only; omega⟩, ⟨(by first | exact sub_int rfl (by omega) | rfl), (by first | exact sub_int rfl (by omega) | rfl), (by first | exact sub_int rfl (by omega) | rfl), (by first | exact sub_int rfl (by omega) | rfl), (by first | exact sub_int rfl (by omega) | rfl), (by first | exact sub_int rfl (by omega) | rfl), (by first | exact sub_int rfl (by omega) | rfl), trivial⟩, rfl⟩
    refine a_op rfl (o_as rfl) ?_
    refine a_nil ?_
    refine tq_n ?_
    refine w_false rfl ?_
    refine awp_seq ?_
    refine w_reg (l := r5_21.toList) rfl r5_21_ok ?_
    refine a_if rfl (o_eq rfl rfl) (fun h21 => ?_) (fun h22 => ?_)
    · refine a_op rfl (o_as rfl) ?_
      refine a_nil ?_
      refine tq_n ?_
      refine w_true rfl ?_
      refine awp_seq ?_
      refine awp_seq ?_
      obtain ⟨k, hk, hkc, hkl, hle, hnx⟩ := hB (by assumption)
      clear hA hB hC hD
      have hbv := hp.hb _ (List.getElem_mem hkl)
      refine awp_draw ⟨[[], [0], [0, 1], [0, 1, 2], [0, 1, 2], [0, 1, 2, 3, 4], [0, 1, 2, 3, 4, 5], [0, 1, 2], [0, 1, 2], [0, 1, 2, 7, 8], [0, 1, 2, 7, 8, 9], [0, 1, 2, 3, 4, 5, 6, 7, 8, 9, 10], [0, 1, 2, 3, 4, 5, 6, 7, 8, 9, 10, 11]], [[16], [121], [122], [12, 123], [16, 123], [123, 124, 125], [123, 126], [7, 123], [16, 123], [123, 128, 129], [123, 130], [123, 127, 131], [123, 132]], [[], [], [], [], [], [1], [1], [], [], [], [], [], []], [none, none, none, none, none, none, none, none, none, none, none, none, none]⟩ mo r5_22_ok (by decide +kernel) (l := r5_22.toList) rfl ?_
      refine d_op rfl rfl rfl (fun _ => o_mv rfl) ?_
      refine d_if rfl rfl rfl (fun _ => o_lt rfl rfl) (fun h23 => ?_) (fun h24 => ?_)
      · omega
      refine d_op rfl rfl rfl (fun _ => o_mv rfl) ?_
      refine d_op rfl rfl rfl (fun _ => o_mv rfl) ?_
      refine d_op rfl rfl rfl (fun _ => o_mv rfl) ?_
      refine d_op rfl rfl rfl (fun _ => o_ixo (j := k) te34 tn3 rfl rfl rfl hk (by omega)) ?_
      refine d_op rfl rfl rfl (fun _ => o_ldp (el := intAV q.load[k]) tg3 rfl rfl (by rw [Nat.zero_add]; exact mAt hkl) rfl) ?_
      refine d_op rfl rfl rfl (fun _ => o_mv rfl) ?_
      refine d_op rfl rfl rfl (fun _ => o_mv rfl) ?_
      refine d_op rfl rfl rfl (fun _ => o_ix te34 tn3 rfl rfl hk (ixm _ _ _ hkc)) ?_
      refine d_op rfl rfl rfl (fun _ => (by first | exact o_ld tg3 rfl rfl | exact o_ldp tg3 rfl rfl rfl rfl)) ?_
      refine d_if rfl rfl rfl (fun _ => o_eq rfl rfl) (fun h25 => ?_) (fun h26 => ?_)
      · omega
      refine d_op rfl rfl rfl (fun _ => o_pkf rfl rfl) ?_
      refine d_nil ?_
      refine tq_n ?_
      refine w_false rfl ?_
      refine awp_skip ?_
      refine tq_n ?_
      refine w_reg (l := r5_24.toList) rfl r5_24_ok ?_
      refine a_op rfl (o_mv rfl) ?_
      refine a_op rfl (o_mv rfl) ?_
      refine a_op rfl (o_ixo (j := k) te34 tn3 rfl rfl rfl hk (by omega)) ?_
      refine a_op rfl (o_ldp (el := intAV q.load[k]) tg3 rfl rfl (by rw [Nat.zero_add]; exact mAt hkl) rfl) ?_
      refine a_op rfl (o_add rfl rfl (by simp only [klo, khi]; omega)) ?_
      refine a_op rfl (o_ixo (j := k) te34 tn3 rfl rfl rfl hk (by omega)) ?_
      refine a_opH0 rfl (o_stp (N := 0) (el := intAV q.load[k]) tn3 rfl rfl rfl rfl rfl (by rw [Nat.zero_add]; exact mAt hkl) rfl (Nat.le_refl _)) (H' := [.var [.sl 1 false (S.rows.map rowAV), rowAV S.swept, rowAV S.over, rowAV S.rej, .sl 3 false (S.ev.map evAV)], .vec 1 0 ((q.load.set k (q.load[k] + 1)).map intAV), .var (evAV S.ev[q.i]).cells]) (by rw [Nat.zero_add, List.map_set]; rfl) ?_
      refine a_nil ?_
      refine bq_n ?_
      refine tq_n ?_
      refine w_reg (l := r5_31.toList) rfl r5_31_ok ?_
      refine a_op rfl (o_mv rfl) ?_
      refine a_op rfl (o_add rfl rfl (by simp only [klo, khi]; omega)) ?_
      refine a_op rfl (o_as rfl) ?_
      refine a_nil ?_
      refine bq_n ?_
      refine tq_n ?_
      refine w_view [(7, rowAV cs), (8, .sl 2 false (L.map feedAV)), (9, .raw (.int .i64 (q.s))), (10, .ptr 0 0), (12, .slo 1 0 0 cs.length), (13, .raw (.int .i64 (((q.n : Nat) : Int) + 1))), (14, .raw (.int .i64 ((q.i : Nat) : Int)))] [.var [.sl 1 false (S.rows.map rowAV), rowAV S.swept, rowAV S.over, rowAV S.rej, .sl 3 false (S.ev.map evAV)], .vec 1 0 ((q.load.set k (q.load[k] + 1)).map intAV)] 2 rfl (Nat.le_of_ble_eq_true rfl) (Nat.le_of_ble_eq_true rfl) ⟨⟨_, rfl, (by first | exact .mpK (Nat.le_of_ble_eq_true rfl) | exact .sloK (Nat.le_of_ble_eq_true rfl) | exact .ptrK (Nat.le_of_ble_eq_true rfl) | exact rs_pur (by simp) rfl)⟩, ⟨_, rfl, (by first | exact .mpK (Nat.le_of_ble_eq_true rfl) | exact .sloK (Nat.le_of_ble_eq_true rfl) | exact .ptrK (Nat.le_of_ble_eq_true rfl) | exact rs_pur (by simp) rfl)⟩, ⟨_, rfl, (by first | exact .mpK (Nat.le_of_ble_eq_true rfl) | exact .sloK (Nat.le_of_ble_eq_true rfl) | exact .ptrK (Nat.le_of_ble_eq_true rfl) | exact rs_pur (by simp) rfl)⟩, ⟨_, rfl, (by first | exact .mpK (Nat.le_of_ble_eq_true rfl) | exact .sloK (Nat.le_of_ble_eq_true rfl) | exact .ptrK (Nat.le_of_ble_eq_true rfl) | exact rs_pur (by simp) rfl)⟩, ⟨_, rfl, (by first | exact .mpK (Nat.le_of_ble_eq_true rfl) | exact .sloK (Nat.le_of_ble_eq_true rfl) | exact .ptrK (Nat.le_of_ble_eq_true rfl) | exact rs_pur (by simp) rfl)⟩, ⟨_, rfl, (by first | exact .mpK (Nat.le_of_ble_eq_true rfl) | exact .sloK (Nat.le_of_ble_eq_true rfl) | exact .ptrK (Nat.le_of_ble_eq_true rfl) | exact rs_pur (by simp) rfl)⟩, ⟨_, rfl, (by first | exact .mpK (Nat.le_of_ble_eq_true rfl) | exact .sloK (Nat.le_of_ble_eq_true rfl) | exact .ptrK (Nat.le_of_ble_eq_true rfl) | exact rs_pur (by simp) rfl)⟩, trivial⟩ ⟨ors_var ⟨rs_pur (by simp) rfl, rs_pur (by simp) rfl, rs_pur (by simp) rfl, rs_pur (by simp) rfl, rs_pur (by simp) rfl, trivial⟩, ors_vec (pu_int _), trivial⟩ ?_
      refine w_reg (l := r5_9.toList) rfl r5_9_ok ?_
      refine a_op rfl (o_mv rfl) ?_
      refine a_op rfl (o_add rfl rfl (by simp only [klo, khi]; omega)) ?_
      refine a_op rfl (o_as rfl) ?_
      refine a_nil ?_
      refine tq_n ?_
      exact ⟨⟨q.i + 1, q.n + 1, q.load.set k (q.load[k] + 1), q.s⟩, ⟨hnx, by dsimp only; omega⟩, ⟨(by first | exact sub_int rfl (by omega) | rfl), (by first | exact sub_int rfl (by omega) | rfl), (by first | exact sub_int rfl (by omega) | rfl), (by first | exact sub_int rfl (by omega) | rfl), (by first | exact sub_int rfl (by omega) | rfl), (by first | exact sub_int rfl (by omega) | rfl), (by first | exact sub_int rfl (by omega) | rfl), trivial⟩, rfl⟩
    refine a_op rfl (o_as rfl) ?_
    refine a_nil ?_
    refine tq_n ?_
    refine w_false rfl ?_
    refine awp_seq ?_
    refine w_reg (l := r5_25.toList) rfl r5_25_ok ?_
    refine a_if rfl (o_eq rfl rfl) (fun h27 => ?_) (fun h28 => ?_)
    · refine a_op rfl (o_as rfl) ?_
      refine a_nil ?_
      refine tq_n ?_
      refine w_true rfl ?_
      refine awp_seq ?_
      obtain ⟨k, hk, hkc, hkl, hle, hs1, hnx⟩ := hC (by assumption)
      clear hA hB hC hD
      refine awp_draw ⟨[[], [0], [0, 1], [0, 1, 2], [0, 1, 2], [0, 1, 2, 3, 4], [0, 1, 2, 3, 4, 5], [0, 1, 2], [0, 1, 2], [0, 1, 2, 7, 8], [0, 1, 2, 7, 8, 9], [0, 1, 2, 3, 4, 5, 6, 7, 8, 9, 10], [0, 1, 2, 3, 4, 5, 6, 7, 8, 9, 10, 11], [0, 1, 2, 3, 4, 5, 6, 7, 8, 9, 10, 11, 12], [0, 1, 2, 3, 4, 5, 6, 7, 8, 9, 10, 11, 12, 13], [0, 1, 2, 3, 4, 5, 6, 7, 8, 9, 10, 11, 12, 13, 14], [0, 1, 2, 3, 4, 5, 6, 7, 8, 9, 10, 11, 12, 13, 14, 15]], [[16], [142], [143], [12, 144], [16, 144], [144, 145, 146], [144, 147], [7, 144], [16, 144], [144, 149, 150], [144, 151], [144, 148, 152], [144, 153], [154], [9, 155], [155, 156], [155, 157]], [[], [], [], [], [], [1], [1], [], [], [], [], [], [], [], [], [], []], [none, none, none, none, none, none, none, none, none, none, none, none, none, none, none, none, none]⟩ mo r5_26_ok (by decide +kernel) (l := r5_26.toList) rfl ?_
      refine d_op rfl rfl rfl (fun _ => o_mv rfl) ?_
      refine d_if rfl rfl rfl (fun _ => o_lt rfl rfl) (fun h29 => ?_) (fun h30 => ?_)
      · omega
      refine d_op rfl rfl rfl (fun _ => o_mv rfl) ?_
      refine d_op rfl rfl rfl (fun _ => o_mv rfl) ?_
      refine d_op rfl rfl rfl (fun _ => o_mv rfl) ?_
      refine d_op rfl rfl rfl (fun _ => o_ixo (j := k) te34 tn3 rfl rfl rfl hk (by omega)) ?_
      refine d_op rfl rfl rfl (fun _ => o_ldp (el := intAV q.load[k]) tg3 rfl rfl (by rw [Nat.zero_add]; exact mAt hkl) rfl) ?_
      refine d_op rfl rfl rfl (fun _ => o_mv rfl) ?_
      refine d_op rfl rfl rfl (fun _ => o_mv rfl) ?_
      refine d_op rfl rfl rfl (fun _ => o_ix te34 tn3 rfl rfl hk (ixm _ _ _ hkc)) ?_
      refine d_op rfl rfl rfl (fun _ => (by first | exact o_ld tg3 rfl rfl | exact o_ldp tg3 rfl rfl rfl rfl)) ?_
      refine d_if rfl rfl rfl (fun _ => o_ne rfl rfl) (fun h31 => ?_) (fun h32 => ?_)
      · omega
      refine d_op rfl rfl rfl (fun _ => o_pkf rfl rfl) ?_
      refine d_op rfl rfl rfl (fun _ => o_mv rfl) ?_
      refine d_op rfl rfl rfl (fun _ => o_mv rfl) ?_
      refine d_if rfl rfl rfl (fun _ => o_ne rfl rfl) (fun h33 => ?_) (fun h34 => ?_)
      · omega
      refine d_op rfl rfl rfl (fun _ => o_pkf rfl rfl) ?_
      refine d_nil ?_
      refine tq_n ?_
      refine w_false rfl ?_
      refine awp_skip ?_
      refine bq_n ?_
      refine tq_n ?_
      refine w_reg (l := r5_31.toList) rfl r5_31_ok ?_
      refine a_op rfl (o_mv rfl) ?_
      refine a_op rfl (o_add rfl rfl (by simp only [klo, khi]; omega)) ?_
      refine a_op rfl (o_as rfl) ?_
      refine a_nil ?_
      refine bq_n ?_
      refine tq_n ?_
      refine w_view [(7, rowAV cs), (8, .sl 2 false (L.map feedAV)), (9, .raw (.int .i64 (q.s))), (10, .ptr 0 0), (12, .slo 1 0 0 cs.length), (13, .raw (.int .i64 (((q.n : Nat) : Int) + 1))), (14, .raw (.int .i64 ((q.i : Nat) : Int)))] [.var [.sl 1 false (S.rows.map rowAV), rowAV S.swept, rowAV S.over, rowAV S.rej, .sl 3 false (S.ev.map evAV)], .vec 1 0 ((q.load).map intAV)] 2 rfl (Nat.le_of_ble_eq_true rfl) (Nat.le_of_ble_eq_true rfl) ⟨⟨_, rfl, (by first | exact .mpK (Nat.le_of_ble_eq_true rfl) | exact .sloK (Nat.le_of_ble_eq_true rfl) | exact .ptrK (Nat.le_of_ble_eq_true rfl) | exact rs_pur (by simp) rfl)⟩, ⟨_, rfl, (by first | exact .mpK (Nat.le_of_ble_eq_true rfl) | exact .sloK (Nat.le_of_ble_eq_true rfl) | exact .ptrK (Nat.le_of_ble_eq_true rfl) | exact rs_pur (by simp) rfl)⟩, ⟨_, rfl, (by first | exact .mpK (Nat.le_of_ble_eq_true rfl) | exact .sloK (Nat.le_of_ble_eq_true rfl) | exact .ptrK (Nat.le_of_ble_eq_true rfl) | exact rs_pur (by simp) rfl)⟩, ⟨_, rfl, (by first | exact .mpK (Nat.le_of_ble_eq_true rfl) | exact .sloK (Nat.le_of_ble_eq_true rfl) | exact .ptrK (Nat.le_of_ble_eq_true rfl) | exact rs_pur (by simp) rfl)⟩, ⟨_, rfl, (by first | exact .mpK (Nat.le_of_ble_eq_true rfl) | exact .sloK (Nat.le_of_ble_eq_true rfl) | exact .ptrK (Nat.le_of_ble_eq_true rfl) | exact rs_pur (by simp) rfl)⟩, ⟨_, rfl, (by first | exact .mpK (Nat.le_of_ble_eq_true rfl) | exact .sloK (Nat.le_of_ble_eq_true rfl) | exact .ptrK (Nat.le_of_ble_eq_true rfl) | exact rs_pur (by simp) rfl)⟩, ⟨_, rfl, (by first | exact .mpK (Nat.le_of_ble_eq_true rfl) | exact .sloK (Nat.le_of_ble_eq_true rfl) | exact .ptrK (Nat.le_of_ble_eq_true rfl) | exact rs_pur (by simp) rfl)⟩, trivial⟩ ⟨ors_var ⟨rs_pur (by simp) rfl, rs_pur (by simp) rfl, rs_pur (by simp) rfl, rs_pur (by simp) rfl, rs_pur (by simp) rfl, trivial⟩, ors_vec (pu_int _), trivial⟩ ?_
      refine w_reg (l := r5_9.toList) rfl r5_9_ok ?_
      refine a_op rfl (o_mv rfl) ?_
      refine a_op rfl (o_add rfl rfl (by simp only [klo, khi]; omega)) ?_
      refine a_op rfl (o_as rfl) ?_
      refine a_nil ?_
      refine tq_n ?_
      exact ⟨⟨q.i + 1, q.n + 1, q.load, q.s⟩, ⟨hnx, by dsimp only; omega⟩, ⟨(by first | exact sub_int rfl (by omega) | rfl), (by first | exact sub_int rfl (by omega) | rfl), (by first | exact sub_int rfl (by omega) | rfl), (by first | exact sub_int rfl (by omega) | rfl), (by first | exact sub_int rfl (by omega) | rfl), (by first | exact sub_int rfl (by omega) | rfl), (by first | exact sub_int rfl (by omega) | rfl), trivial⟩, rfl⟩
    refine a_op rfl (o_as rfl) ?_
    refine a_nil ?_
    refine tq_n ?_
    refine w_false rfl ?_
    refine awp_seq ?_
    refine w_reg (l := r5_28.toList) rfl r5_28_ok ?_
    refine a_if rfl (o_eq rfl rfl) (fun h35 => ?_) (fun h36 => ?_)
    · refine a_op rfl (o_as rfl) ?_
      refine a_nil ?_
      refine tq_n ?_
      refine w_true rfl ?_
      refine awp_seq ?_
      obtain ⟨hs1, hnx⟩ := hD (by assumption)
      clear hA hB hC hD
      refine w_reg (l := r5_29.toList) rfl r5_29_ok ?_
      refine a_op rfl (o_mv rfl) ?_
      refine a_if rfl (o_ne rfl rfl) (fun h37 => ?_) (fun h38 => ?_)
      · omega
      refine a_nil ?_
      refine tq_n ?_
      refine w_false rfl ?_
      refine awp_skip ?_
      refine bq_n ?_
      refine tq_n ?_
      refine w_reg (l := r5_31.toList) rfl r5_31_ok ?_
      refine a_op rfl (o_mv rfl) ?_
      refine a_op rfl (o_add rfl rfl (by simp only [klo, khi]; omega)) ?_
      refine a_op rfl (o_as rfl) ?_
      refine a_nil ?_
      refine bq_n ?_
      refine tq_n ?_
      refine w_view [(7, rowAV cs), (8, .sl 2 false (L.map feedAV)), (9, .raw (.int .i64 (q.s))), (10, .ptr 0 0), (12, .slo 1 0 0 cs.length), (13, .raw (.int .i64 (((q.n : Nat) : Int) + 1))), (14, .raw (.int .i64 ((q.i : Nat) : Int)))] [.var [.sl 1 false (S.rows.map rowAV), rowAV S.swept, rowAV S.over, rowAV S.rej, .sl 3 false (S.ev.map evAV)], .vec 1 0 ((q.load).map intAV)] 2 rfl (Nat.le_of_ble_eq_true rfl) (Nat.le_of_ble_eq_true rfl) ⟨⟨_, rfl, (by first | exact .mpK (Nat.le_of_ble_eq_true rfl) | exact .sloK (Nat.le_of_ble_eq_true rfl) | exact .ptrK (Nat.le_of_ble_eq_true rfl) | exact rs_pur (by simp) rfl)⟩, ⟨_, rfl, (by first | exact .mpK (Nat.le_of_ble_eq_true rfl) | exact .sloK (Nat.le_of_ble_eq_true rfl) | exact .ptrK (Nat.le_of_ble_eq_true rfl) | exact rs_pur (by simp) rfl)⟩, ⟨_, rfl, (by first | exact .mpK (Nat.le_of_ble_eq_true rfl) | exact .sloK (Nat.le_of_ble_eq_true rfl) | exact .ptrK (Nat.le_of_ble_eq_true rfl) | exact rs_pur (by simp) rfl)⟩, ⟨_, rfl, (by first | exact .mpK (Nat.le_of_ble_eq_true rfl) | exact .sloK (Nat.le_of_ble_eq_true rfl) | exact .ptrK (Nat.le_of_ble_eq_true rfl) | exact rs_pur (by simp) rfl)⟩, ⟨_, rfl, (by first | exact .mpK (Nat.le_of_ble_eq_true rfl) | exact .sloK (Nat.le_of_ble_eq_true rfl) | exact .ptrK (Nat.le_of_ble_eq_true rfl) | exact rs_pur (by simp) rfl)⟩, ⟨_, rfl, (by first | exact .mpK (Nat.le_of_ble_eq_true rfl) | exact .sloK (Nat.le_of_ble_eq_true rfl) | exact .ptrK (Nat.le_of_ble_eq_true rfl) | exact rs_pur (by simp) rfl)⟩, ⟨_, rfl, (by first | exact .mpK (Nat.le_of_ble_eq_true rfl) | exact .sloK (Nat.le_of_ble_eq_true rfl) | exact .ptrK (Nat.le_of_ble_eq_true rfl) | exact rs_pur (by simp) rfl)⟩, trivial⟩ ⟨ors_var ⟨rs_pur (by simp) rfl, rs_pur (by simp) rfl, rs_pur (by simp) rfl, rs_pur (by simp) rfl, rs_pur (by simp) rfl, trivial⟩, ors_vec (pu_int _), trivial⟩ ?_
      refine w_reg (l := r5_9.toList) rfl r5_9_ok ?_
      refine a_op rfl (o_mv rfl) ?_
      refine a_op rfl (o_add rfl rfl (by simp only [klo, khi]; omega)) ?_
      refine a_op rfl (o_as rfl) ?_
      refine a_nil ?_
      refine tq_n ?_
      exact ⟨⟨q.i + 1, q.n + 1, q.load, q.s⟩, ⟨hnx, by dsimp only; omega⟩, ⟨(by first | exact sub_int rfl (by omega) | rfl), (by first | exact sub_int rfl (by omega) | rfl), (by first | exact sub_int rfl (by omega) | rfl), (by first | exact sub_int rfl (by omega) | rfl), (by first | exact sub_int rfl (by omega) | rfl), (by first | exact sub_int rfl (by omega) | rfl), (by first | exact sub_int rfl (by omega) | rfl), trivial⟩, rfl⟩
    omega
  refine a_nil ?_
  refine tq_n ?_
  refine w_false rfl ?_
  refine awp_exit ?_
  refine tq_x ?_
  refine tq_x ?_
  refine bq_hit ?_
  refine tq_n ?_
  refine awp_seq ?_
  have hfin := hp.end (by omega)
  refine w_reg (l := r5_32.toList) rfl r5_32_ok ?_
  refine a_op rfl (o_mv rfl) ?_
  refine a_op rfl (o_mv rfl) ?_
  refine a_op rfl (o_len rfl rfl (by first | exact List.length_map .. | rfl) tl68) ?_
  refine a_if rfl (o_eq rfl rfl) (fun h39 => ?_) (fun h40 => ?_)
  · refine a_op rfl (o_mv rfl) ?_
    refine a_pure rfl rfl rfl cb32 awake_ok ?_
    refine a_op rfl (o_pkt rfl rfl) ?_
    refine a_op rfl (o_as rfl) ?_
    refine a_nil ?_
    refine tq_n ?_
    refine awp_ret ?_
    refine r_one rfl ⟨rfl, trivial⟩ ?_
    exact rs_pur (by simp) rfl
  omega
end Go.Ab.S
