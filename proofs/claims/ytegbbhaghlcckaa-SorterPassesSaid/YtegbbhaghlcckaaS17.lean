/- What functions of this program compute, and the laws of what they compute, under the bounds on lengths that each contract states. -/
import Derived.Test.YtegbbhaghlcckaaSG

set_option linter.unusedSimpArgs false
set_option linter.unusedVariables false
namespace Go.Ab.S
open Go Go.Ab Go.Proofs
theorem built_good (b : B4) (x : CaseR) (hx : x.ok) (h : (planF x).2 = 0) : PureCall Try.prog GL 34 [caseAV b x] (.tup [planAV b4F (planF x).1, .sl 4 false ((itemsF x).map itemAV), .raw (.bool true)]) := by
  have := built_ok b x hx
  rw [show builtF x = (((planF x).1, itemsF x), true) by rw [builtF, if_pos h]] at this
  exact this
theorem built_bad (b : B4) (x : CaseR) (hx : x.ok) (h : ¬ (planF x).2 = 0) : PureCall Try.prog GL 34 [caseAV b x] (.tup [planAV b4F (planF x).1, .sl 4 false (([] : List ItemR).map itemAV), .raw (.bool false)]) := by
  have := built_ok b x hx
  rw [show builtF x = (((planF x).1, []), false) by rw [builtF, if_neg h]] at this
  exact this
def twoB3 (p : PlanR) (sw : Int) (l : List ItemR) : BothR := ⟨twoA p sw l, twoB p sw l, (twoB p sw l).rows.flatten⟩
theorem rightF_caps {p : PlanR} (h : CheckOk p) : p.caps.length ≤ 64 := rightF_le h.r
theorem two_okG (b : B4) {p : PlanR} (sw : Int) (b2 : Fl) {l : List ItemR} (h : CheckOk p) (h0 : 0 ≤ sw) (h1 : sw ≤ 1000) (hl : l.length ≤ 2000) (hd : (l.map (·.id)).Nodup) (hi : ∀ a ∈ l.map (·.id), 1 ≤ a ∧ a ≤ 999999) :
    PureCall Try.prog GL 26 [planAV b p, .raw (.int .i64 sw), .sl 4 b2 (l.map itemAV)] (.tup [bothAV (twoB3 p sw l), .raw (.int .i64 0)]) := by
  have h2 := rightF_le h.r
  have h3 := h.m; have h4 := h.l1; have h5 := h.l2
  have := two_ok b p (by omega) (by omega) (by omega) (by omega) sw b2 l (by omega)
  rw [two_good h h0 h1 hl hd hi] at this
  exact this
theorem listsT (rows : List (List Int)) (h : rows.length ≤ 100000) (h2 : rows.flatten.length ≤ 1000000) : PureCall Try.prog GL 36 [.sl 1 false (rows.map rowAV), .sl 1 false (rows.map rowAV)] (.raw (.bool true)) := by
  have h3 : ∀ r ∈ rows, r.length ≤ 4611686018427387904 := fun r hr => by
    have := (List.sublist_flatten_of_mem hr).length_le; omega
  have := lists_ok false rows (by omega) false rows (by omega) h3 h3
  rw [show decide (rows = rows) = true by simp] at this
  exact this
theorem sameT (xs : List Int) (h : xs.length ≤ 1000000) : PureCall Try.prog GL 37 [rowAV xs, rowAV xs] (.raw (.bool true)) := by
  have := sameInts_ok false xs (by omega) false xs (by omega)
  rw [show decide (xs = xs) = true by simp] at this
  exact this
theorem o_lkS {α : Type} {F : Frm} {H : Heap} {x i : Operand} {n : Nat} {f : α → AV} {m : List (Int × α)} {k : Int} {y : α} (hx : evx F x = some (.mp n)) (hH : H[n]? = some (.mapo (mpG f m))) (hi : evx F i = some (.raw (.int .i64 k))) (hy : mget m k = some y) :
    OpOk Try.prog (.lookup 38 x i false) F H (f y) H := by
  have := o_lk (P := Try.prog) (z := intAV 0) mt38 k3 mz3 (fun C => .raw _) hx hH hi false
  simp only [mget_map, hy] at this
  exact this
/-- How many items a pass has, at most. -/
theorem play_small {cs : List Int} {sw : Int} {L : List FeedR} (hr : rightF cs = true) (h0 : 0 ≤ sw) (hin : ∀ x ∈ L, -1 ≤ x.stk ∧ x.stk < cs.length) :
    (playF cs sw L).rows.length = cs.length ∧ (playF cs sw L).swept.length = cs.length ∧ (playF cs sw L).rows.flatten.length + (playF cs sw L).over.length + (playF cs sw L).rej.length = L.length := by
  have h1 := playF_count (sw := sw) h0 (rightF_pos hr).1 (fun x hx => (hin x hx).2)
  have h2 := playS_inv (sw := sw) (rightF_pos hr).1 h0 (fun x hx => (hin x hx).2) L.length (Nat.le_refl _)
  rw [playS_all] at h2
  simp only [allM, List.length_append] at h1
  exact ⟨h2.rows, h2.swept, h1⟩

noncomputable def r8_0 : Array Oper := opsAt Try.f8 [0]
theorem r8_0_ok : dstOk 213 r8_0.toList = true ∧ r8_0.toList.all (fun o => noDefer o.op) = true := by decide +kernel
noncomputable def r8_1 : Array Oper := opsAt Try.f8 [1, 0]
theorem r8_1_ok : dstOk 213 r8_1.toList = true ∧ r8_1.toList.all (fun o => noDefer o.op) = true := by decide +kernel
noncomputable def r8_2 : Array Oper := opsAt Try.f8 [1, 1, 0, 0]
theorem r8_2_ok : dstOk 213 r8_2.toList = true ∧ r8_2.toList.all (fun o => noDefer o.op) = true := by decide +kernel
noncomputable def r8_3 : Array Oper := opsAt Try.f8 [1, 1, 0, 1, 0, 0]
theorem r8_3_ok : dstOk 213 r8_3.toList = true ∧ r8_3.toList.all (fun o => noDefer o.op) = true := by decide +kernel
noncomputable def r8_4 : Array Oper := opsAt Try.f8 [1, 1, 1, 0]
theorem r8_4_ok : dstOk 213 r8_4.toList = true ∧ r8_4.toList.all (fun o => noDefer o.op) = true := by decide +kernel
noncomputable def r8_5 : Array Oper := opsAt Try.f8 [1, 1, 1, 1, 0]
theorem r8_5_ok : dstOk 213 r8_5.toList = true ∧ r8_5.toList.all (fun o => noDefer o.op) = true := by decide +kernel
noncomputable def r8_6 : Array Oper := opsAt Try.f8 [1, 1, 1, 1, 1, 0, 0]
theorem r8_6_ok : dstOk 213 r8_6.toList = true ∧ r8_6.toList.all (fun o => noDefer o.op) = true := by decide +kernel
noncomputable def r8_7 : Array Oper := opsAt Try.f8 [1, 1, 1, 1, 1, 0, 1, 0, 0]
theorem r8_7_ok : dstOk 213 r8_7.toList = true ∧ r8_7.toList.all (fun o => noDefer o.op) = true := by decide +kernel
noncomputable def r8_8 : Array Oper := opsAt Try.f8 [1, 1, 1, 1, 1, 1, 0]
theorem r8_8_ok : dstOk 213 r8_8.toList = true ∧ r8_8.toList.all (fun o => noDefer o.op) = true := by decide +kernel
noncomputable def r8_9 : Array Oper := opsAt Try.f8 [1, 1, 1, 1, 1, 1, 1, 0]
theorem r8_9_ok : dstOk 213 r8_9.toList = true ∧ r8_9.toList.all (fun o => noDefer o.op) = true := by decide +kernel
noncomputable def r8_10 : Array Oper := opsAt Try.f8 [1, 1, 1, 1, 1, 1, 1, 1, 0, 0]
theorem r8_10_ok : dstOk 213 r8_10.toList = true ∧ r8_10.toList.all (fun o => noDefer o.op) = true := by decide +kernel
noncomputable def r8_11 : Array Oper := opsAt Try.f8 [1, 1, 1, 1, 1, 1, 1, 1, 0, 1, 0, 0, 0]
theorem r8_11_ok : dstOk 213 r8_11.toList = true ∧ r8_11.toList.all (fun o => noDefer o.op) = true := by decide +kernel
noncomputable def r8_12 : Array Oper := opsAt Try.f8 [1, 1, 1, 1, 1, 1, 1, 1, 0, 1, 0, 0, 1, 1, 0, 0, 0]
theorem r8_12_ok : dstOk 213 r8_12.toList = true ∧ r8_12.toList.all (fun o => noDefer o.op) = true := by decide +kernel
noncomputable def r8_13 : Array Oper := opsAt Try.f8 [1, 1, 1, 1, 1, 1, 1, 1, 0, 1, 0, 0, 1, 1, 0, 0, 1, 0]
theorem r8_13_ok : dstOk 213 r8_13.toList = true ∧ r8_13.toList.all (fun o => noDefer o.op) = true := by decide +kernel
noncomputable def r8_14 : Array Oper := opsAt Try.f8 [1, 1, 1, 1, 1, 1, 1, 1, 0, 1, 0, 0, 1, 1, 0, 0, 1, 1, 0, 0]
theorem r8_14_ok : dstOk 213 r8_14.toList = true ∧ r8_14.toList.all (fun o => noDefer o.op) = true := by decide +kernel
noncomputable def r8_15 : Array Oper := opsAt Try.f8 [1, 1, 1, 1, 1, 1, 1, 1, 0, 1, 0, 0, 1, 1, 0, 0, 1, 1, 0, 1, 0]
theorem r8_15_ok : dstOk 213 r8_15.toList = true ∧ r8_15.toList.all (fun o => noDefer o.op) = true := by decide +kernel
noncomputable def r8_16 : Array Oper := opsAt Try.f8 [1, 1, 1, 1, 1, 1, 1, 1, 0, 1, 0, 0, 1, 1, 0, 0, 1, 1, 1, 0, 0]
theorem r8_16_ok : dstOk 213 r8_16.toList = true ∧ r8_16.toList.all (fun o => noDefer o.op) = true := by decide +kernel
noncomputable def r8_17 : Array Oper := opsAt Try.f8 [1, 1, 1, 1, 1, 1, 1, 1, 0, 1, 0, 0, 1, 1, 0, 0, 1, 1, 1, 0, 1, 0]
theorem r8_17_ok : dstOk 213 r8_17.toList = true ∧ r8_17.toList.all (fun o => noDefer o.op) = true := by decide +kernel
noncomputable def r8_18 : Array Oper := opsAt Try.f8 [1, 1, 1, 1, 1, 1, 1, 1, 0, 1, 0, 0, 1, 1, 0, 0, 1, 1, 1, 1, 0]
theorem r8_18_ok : dstOk 213 r8_18.toList = true ∧ r8_18.toList.all (fun o => noDefer o.op) = true := by decide +kernel
noncomputable def r8_19 : Array Oper := opsAt Try.f8 [1, 1, 1, 1, 1, 1, 1, 1, 0, 1, 0, 0, 1, 1, 0, 0, 1, 1, 1, 1, 1]
theorem r8_19_ok : dstOk 213 r8_19.toList = true ∧ r8_19.toList.all (fun o => noDefer o.op) = true := by decide +kernel
noncomputable def r8_20 : Array Oper := opsAt Try.f8 [1, 1, 1, 1, 1, 1, 1, 1, 0, 1, 0, 0, 1, 1, 1]
theorem r8_20_ok : dstOk 213 r8_20.toList = true ∧ r8_20.toList.all (fun o => noDefer o.op) = true := by decide +kernel
noncomputable def b8_0 : Code := (.seq (.region 11 r8_11 false) (.seq (.cond (.tmp 46) .skip (.exit 0)) (.seq (.block 1 (.seq (.region 12 r8_12 false) (.seq (.region 13 r8_13 false) (.seq (.seq (.region 14 r8_14 false) (.cond (.tmp 58) (.region 15 r8_15 false) .skip)) (.seq (.seq (.region 16 r8_16 false) (.cond (.tmp 70) (.region 17 r8_17 false) .skip)) (.seq (.region 18 r8_18 false) (.region 19 r8_19 false))))))) (.region 20 r8_20 false))))
noncomputable def r8_21 : Array Oper := opsAt Try.f8 [1, 1, 1, 1, 1, 1, 1, 1, 1, 0]
theorem r8_21_ok : dstOk 213 r8_21.toList = true ∧ r8_21.toList.all (fun o => noDefer o.op) = true := by decide +kernel
noncomputable def r8_22 : Array Oper := opsAt Try.f8 [1, 1, 1, 1, 1, 1, 1, 1, 1, 1, 0, 0]
theorem r8_22_ok : dstOk 213 r8_22.toList = true ∧ r8_22.toList.all (fun o => noDefer o.op) = true := by decide +kernel
noncomputable def r8_23 : Array Oper := opsAt Try.f8 [1, 1, 1, 1, 1, 1, 1, 1, 1, 1, 0, 1, 0, 0]
theorem r8_23_ok : dstOk 213 r8_23.toList = true ∧ r8_23.toList.all (fun o => noDefer o.op) = true := by decide +kernel
noncomputable def r8_24 : Array Oper := opsAt Try.f8 [1, 1, 1, 1, 1, 1, 1, 1, 1, 1, 1, 0]
theorem r8_24_ok : dstOk 213 r8_24.toList = true ∧ r8_24.toList.all (fun o => noDefer o.op) = true := by decide +kernel
noncomputable def r8_25 : Array Oper := opsAt Try.f8 [1, 1, 1, 1, 1, 1, 1, 1, 1, 1, 1, 1, 0, 0]
theorem r8_25_ok : dstOk 213 r8_25.toList = true ∧ r8_25.toList.all (fun o => noDefer o.op) = true := by decide +kernel
noncomputable def r8_26 : Array Oper := opsAt Try.f8 [1, 1, 1, 1, 1, 1, 1, 1, 1, 1, 1, 1, 0, 1, 0, 0, 0]
theorem r8_26_ok : dstOk 213 r8_26.toList = true ∧ r8_26.toList.all (fun o => noDefer o.op) = true := by decide +kernel
noncomputable def r8_27 : Array Oper := opsAt Try.f8 [1, 1, 1, 1, 1, 1, 1, 1, 1, 1, 1, 1, 0, 1, 0, 0, 1, 1, 0, 0, 0]
theorem r8_27_ok : dstOk 213 r8_27.toList = true ∧ r8_27.toList.all (fun o => noDefer o.op) = true := by decide +kernel
noncomputable def r8_28 : Array Oper := opsAt Try.f8 [1, 1, 1, 1, 1, 1, 1, 1, 1, 1, 1, 1, 0, 1, 0, 0, 1, 1, 0, 0, 1]
theorem r8_28_ok : dstOk 213 r8_28.toList = true ∧ r8_28.toList.all (fun o => noDefer o.op) = true := by decide +kernel
noncomputable def r8_29 : Array Oper := opsAt Try.f8 [1, 1, 1, 1, 1, 1, 1, 1, 1, 1, 1, 1, 0, 1, 0, 0, 1, 1, 1]
theorem r8_29_ok : dstOk 213 r8_29.toList = true ∧ r8_29.toList.all (fun o => noDefer o.op) = true := by decide +kernel
noncomputable def b8_1 : Code := (.seq (.region 26 r8_26 false) (.seq (.cond (.tmp 149) .skip (.exit 2)) (.seq (.block 3 (.seq (.region 27 r8_27 false) (.region 28 r8_28 false))) (.region 29 r8_29 false))))
noncomputable def r8_30 : Array Oper := opsAt Try.f8 [1, 1, 1, 1, 1, 1, 1, 1, 1, 1, 1, 1, 1, 0]
theorem r8_30_ok : dstOk 213 r8_30.toList = true ∧ r8_30.toList.all (fun o => noDefer o.op) = true := by decide +kernel
noncomputable def r8_31 : Array Oper := opsAt Try.f8 [1, 1, 1, 1, 1, 1, 1, 1, 1, 1, 1, 1, 1, 1, 0]
theorem r8_31_ok : dstOk 213 r8_31.toList = true ∧ r8_31.toList.all (fun o => noDefer o.op) = true := by decide +kernel
noncomputable def c8 : Code := (.seq (.region 0 r8_0 false) (.seq (.region 1 r8_1 false) (.seq (.seq (.region 2 r8_2 false) (.cond (.tmp 27) (.seq (.region 3 r8_3 false) .ret) .skip)) (.seq (.region 4 r8_4 false) (.seq (.region 5 r8_5 false) (.seq (.seq (.region 6 r8_6 false) (.cond (.tmp 41) (.seq (.region 7 r8_7 false) .ret) .skip)) (.seq (.region 8 r8_8 false) (.seq (.region 9 r8_9 false) (.seq (.seq (.region 10 r8_10 false) (.block 0 (.loop b8_0))) (.seq (.region 21 r8_21 false) (.seq (.seq (.region 22 r8_22 false) (.cond (.tmp 144) (.seq (.region 23 r8_23 false) .ret) .skip)) (.seq (.region 24 r8_24 false) (.seq (.seq (.region 25 r8_25 false) (.block 2 (.loop b8_1))) (.seq (.region 30 r8_30 false) (.seq (.region 31 r8_31 true) .ret)))))))))))))))
theorem body8 : Try.f8.body = some c8 := by kernel_rfl
theorem passes_bad (b : B4) (x : CaseR) (hx : x.ok) (hP : ¬ (planF x).2 = 0) : PureCall Try.prog GL 8 [caseAV b x] (.raw (.bool true)) := by
  refine pure_of_body Try.func8 body8 (Nat.le_of_ble_eq_true rfl) (by simp) (by simp) ?_
  refine w_keep [(0, caseAV b x)] ⟨rfl, trivial⟩ ?_
  unfold c8
  refine awp_seq ?_
  refine w_reg (l := r8_0.toList) rfl r8_0_ok ?_
  refine a_op rfl (o_box (N := 0) rfl (by rfl) rfl rfl) ?_
  refine a_op rfl (o_as rfl) ?_
  refine a_nil ?_
  refine tq_n ?_
  refine awp_seq ?_
  refine w_reg (l := r8_1.toList) rfl r8_1_ok ?_
  refine a_op rfl ((by first | exact o_ldg tg82 tn82 rfl rfl | exact o_ldpg tg82 tn82 rfl rfl rfl rfl)) ?_
  refine a_pure rfl rfl rfl cb34 (built_bad b x hx hP) ?_
  refine a_op rfl (o_mv rfl) ?_
  refine a_op rfl (o_ex rfl rfl) ?_
  refine a_op rfl (o_ex rfl rfl) ?_
  refine a_op rfl (o_ex rfl rfl) ?_
  refine a_op rfl (o_al (N := 1) tz51 rfl rfl rfl) ?_
  refine a_op0 rfl (o_st (N := 3) tn51 rfl rfl rfl rfl rfl) ?_
  refine a_op rfl (o_as rfl) ?_
  refine a_op rfl (o_as rfl) ?_
  refine a_nil ?_
  refine tq_n ?_
  refine awp_seq ?_
  refine awp_seq ?_
  refine w_reg (l := r8_2.toList) rfl r8_2_ok ?_
  refine a_op rfl (o_mv rfl) ?_
  refine a_op rfl (o_ntf rfl) ?_
  refine a_nil ?_
  refine tq_n ?_
  refine w_true rfl ?_
  refine awp_seq ?_
  refine w_reg (l := r8_3.toList) rfl r8_3_ok ?_
  refine a_pure rfl rfl rfl cb32 awake_ok ?_
  refine a_op rfl (o_as rfl) ?_
  refine a_nil ?_
  refine tq_n ?_
  refine awp_ret ?_
  refine tq_r ?_
  refine r_one rfl ⟨rfl, trivial⟩ ?_
  exact rs_pur (by simp) rfl
theorem passes_good (b : B4) (x : CaseR) (hx : x.ok) (hP : (planF x).2 = 0) : PureCall Try.prog GL 8 [caseAV b x] (.raw (.bool true)) := by
  refine pure_of_body Try.func8 body8 (Nat.le_of_ble_eq_true rfl) (by simp) (by simp) ?_
  refine w_keep [(0, caseAV b x)] ⟨rfl, trivial⟩ ?_
  unfold c8
  obtain ⟨hmade, hst1, hst2, hrt⟩ := make_made (stops := stopsF x) (caps := capsF x) hP
  have hck : CheckOk (planF x).1 := hmade.ck
  have hd := itemsF_nodup x
  have hid := itemsF_in x
  have hll := itemsF_len x
  have hsx := hx.s
  unfold u8r at hsx
  obtain ⟨p, hp⟩ : ∃ p, p = (planF x).1 := ⟨_, rfl⟩
  obtain ⟨l, hl⟩ : ∃ l, l = itemsF x := ⟨_, rfl⟩
  rw [← hp] at hck
  rw [← hl] at hd hid hll
  obtain ⟨sw, hsw⟩ : ∃ sw : Int, sw = x.sweeps % 9 := ⟨_, rfl⟩
  have hsw0 : 0 ≤ sw ∧ sw ≤ 8 := by omega
  have hcl := rightF_caps hck
  have hsm := hck.m
  have hA := play_small (sw := sw) hck.r hsw0.1 (firstL_in hck l)
  have hB := play_small (sw := sw) hck.r hsw0.1 (secondL_in hck sw l)
  have hlf : (leftL p sw l).length ≤ l.length := left_len hck hd hsw0.1
  rw [show playF p.caps sw (firstL p l) = twoA p sw l from rfl, firstL_len] at hA
  rw [show playF p.caps sw (secondL p sw l) = twoB p sw l from rfl, show (secondL p sw l).length = (leftL p sw l).length by simp [secondL]] at hB
  
  refine awp_seq ?_
  refine w_reg (l := r8_0.toList) rfl r8_0_ok ?_
  refine a_op rfl (o_box (N := 0) rfl (by rfl) rfl rfl) ?_
  refine a_op rfl (o_as rfl) ?_
  refine a_nil ?_
  refine tq_n ?_
  refine awp_seq ?_
  refine w_reg (l := r8_1.toList) rfl r8_1_ok ?_
  refine a_op rfl ((by first | exact o_ldg tg82 tn82 rfl rfl | exact o_ldpg tg82 tn82 rfl rfl rfl rfl)) ?_
  refine a_pure rfl rfl rfl cb34 (built_good b x hx hP) ?_
  rw [← hp, ← hl]
  refine a_op rfl (o_mv rfl) ?_
  refine a_op rfl (o_ex rfl rfl) ?_
  refine a_op rfl (o_ex rfl rfl) ?_
  refine a_op rfl (o_ex rfl rfl) ?_
  refine a_op rfl (o_al (N := 1) tz51 rfl rfl rfl) ?_
  refine a_op0 rfl (o_st (N := 3) tn51 rfl rfl rfl rfl rfl) ?_
  refine a_op rfl (o_as rfl) ?_
  refine a_op rfl (o_as rfl) ?_
  refine a_nil ?_
  refine tq_n ?_
  refine awp_seq ?_
  refine awp_seq ?_
  refine w_reg (l := r8_2.toList) rfl r8_2_ok ?_
  refine a_op rfl (o_mv rfl) ?_
  refine a_op rfl (o_ntt rfl) ?_
  refine a_nil ?_
  refine tq_n ?_
  refine w_false rfl ?_
  refine awp_skip ?_
  refine tq_n ?_
  refine awp_seq ?_
  refine w_reg (l := r8_4.toList) rfl r8_4_ok ?_
  refine a_op rfl ((by first | exact o_fa tf82_4 rfl rfl | exact o_fap tf82_4 rfl rfl)) ?_
  refine a_op rfl ((by first | exact o_ld tg5 rfl rfl | exact o_ldp tg5 rfl rfl rfl rfl)) ?_
  refine a_op rfl (o_rem rfl rfl (by omega) (by omega)) ?_
  rw [← hsw]
  refine a_op rfl (o_cv tk5 tk3 rfl (by simp only [klo, khi]; omega)) ?_
  refine a_op rfl (o_as rfl) ?_
  refine a_nil ?_
  refine tq_n ?_
  refine awp_seq ?_
  refine w_reg (l := r8_5.toList) rfl r8_5_ok ?_
  refine a_op rfl ((by first | exact o_ldg tg51 tn51 rfl rfl | exact o_ldpg tg51 tn51 rfl rfl rfl rfl)) ?_
  refine a_op rfl (o_mv rfl) ?_
  refine a_op rfl (o_mv rfl) ?_
  refine a_pure rfl rfl rfl cb26 (two_okG b4F sw _ hck (by omega) (by omega) (by omega) hd hid) ?_
  refine a_op rfl (o_mv rfl) ?_
  refine a_op rfl (o_ex rfl rfl) ?_
  refine a_op rfl (o_ex rfl rfl) ?_
  refine a_op rfl (o_al (N := 2) tz62 rfl rfl rfl) ?_
  refine a_op0 rfl (o_st (N := 10) tn62 rfl rfl rfl rfl rfl) ?_
  refine a_op rfl (o_as rfl) ?_
  refine a_nil ?_
  refine tq_n ?_
  refine awp_seq ?_
  refine awp_seq ?_
  refine w_reg (l := r8_6.toList) rfl r8_6_ok ?_
  refine a_op rfl (o_mv rfl) ?_
  refine a_op rfl (elD (o_ne rfl rfl) (w := .raw (.bool false)) rfl) ?_
  refine a_nil ?_
  refine tq_n ?_
  refine w_false rfl ?_
  refine awp_skip ?_
  refine tq_n ?_
  refine awp_seq ?_
  refine w_reg (l := r8_8.toList) rfl r8_8_ok ?_
  refine a_opH rfl (o_mm (N := 3) rfl rfl) (H' := [.var [.sl 1 b.b0 (x.vols.map u8AV), .sl 1 b.b1 (x.caps.map u8AV), .sl 1 b.b2 (x.picks.map u8AV), .sl 1 b.b3 (x.unread.map u8AV), .raw (.int .u8 x.sweeps)], .var (planC b4F p), .var [.sl 1 false ((twoA p sw l).rows.map rowAV), rowAV (twoA p sw l).swept, rowAV (twoA p sw l).over, rowAV (twoA p sw l).rej, .sl 3 false ((twoA p sw l).ev.map evAV), .sl 1 false ((twoB p sw l).rows.map rowAV), rowAV (twoB p sw l).swept, rowAV (twoB p sw l).over, rowAV (twoB p sw l).rej, .sl 3 false ((twoB p sw l).ev.map evAV), rowAV (twoB p sw l).rows.flatten], .mapo (mpG (fun y : ItemR => intAV (bF p y)) (mkM (·.id) []))]) rfl ?_
  refine a_op rfl (o_as rfl) ?_
  refine a_nil ?_
  refine tq_n ?_
  refine awp_seq ?_
  refine w_reg (l := r8_9.toList) rfl r8_9_ok ?_
  refine a_op rfl (o_as rfl) ?_
  refine a_nil ?_
  refine tq_n ?_
  refine awp_seq ?_
  refine awp_seq ?_
  refine w_own (q := 10) (z := 2) (N := 4) (by decide) rfl rfl rfl ?_
  refine w_reg (l := r8_10.toList) rfl r8_10_ok ?_
  refine a_op rfl (o_mv rfl) ?_
  refine a_op rfl (o_len rfl rfl (by first | exact List.length_map .. | rfl) tl43) ?_
  refine a_op rfl (o_mv rfl) ?_
  refine a_nil ?_
  refine tq_n ?_
  refine awp_block ?_
  refine w_loop (fun i : Nat => i ≤ l.length) (fun i => [(3, .ptr 1 0), (6, .raw (.int .i64 sw)), (7, .ptr 2 0), (9, .mp 3), (10, .slo 4 i 0 i), (43, .sl 4 false (l.map itemAV)), (44, .raw (.int .i64 ((l.length : Nat) : Int))), (45, .raw (.int .i64 ((i : Nat) : Int)))]) (fun i => [.var [.sl 1 b.b0 (x.vols.map u8AV), .sl 1 b.b1 (x.caps.map u8AV), .sl 1 b.b2 (x.picks.map u8AV), .sl 1 b.b3 (x.unread.map u8AV), .raw (.int .u8 x.sweeps)], .var (planC b4F p), .var [.sl 1 false ((twoA p sw l).rows.map rowAV), rowAV (twoA p sw l).swept, rowAV (twoA p sw l).over, rowAV (twoA p sw l).rej, .sl 3 false ((twoA p sw l).ev.map evAV), .sl 1 false ((twoB p sw l).rows.map rowAV), rowAV (twoB p sw l).swept, rowAV (twoB p sw l).over, rowAV (twoB p sw l).rej, .sl 3 false ((twoB p sw l).ev.map evAV), rowAV (twoB p sw l).rows.flatten], .mapo (mpG (fun y : ItemR => intAV (bF p y)) (mkM (·.id) (l.take i))), .vec 2 i (((l.take i).map (fun y : ItemR => (⟨y.id, aF p y⟩ : FeedR))).map feedAV)]) (fun i => l.length - i) (0) (by simp) ⟨(by first | exact sub_int rfl (by omega) | rfl | exact sub_int rfl (by rw [ha]) | exact sub_int rfl (by rw [hb])), (by first | exact sub_int rfl (by omega) | rfl | exact sub_int rfl (by rw [ha]) | exact sub_int rfl (by rw [hb])), (by first | exact sub_int rfl (by omega) | rfl | exact sub_int rfl (by rw [ha]) | exact sub_int rfl (by rw [hb])), (by first | exact sub_int rfl (by omega) | rfl | exact sub_int rfl (by rw [ha]) | exact sub_int rfl (by rw [hb])), (by first | exact sub_int rfl (by omega) | rfl | exact sub_int rfl (by rw [ha]) | exact sub_int rfl (by rw [hb])), (by first | exact sub_int rfl (by omega) | rfl | exact sub_int rfl (by rw [ha]) | exact sub_int rfl (by rw [hb])), (by first | exact sub_int rfl (by omega) | rfl | exact sub_int rfl (by rw [ha]) | exact sub_int rfl (by rw [hb])), (by first | exact sub_int rfl (by omega) | rfl | exact sub_int rfl (by rw [ha]) | exact sub_int rfl (by rw [hb])), trivial⟩ rfl ?_
  intro i hpi
  unfold b8_0
  refine awp_seq ?_
  refine w_reg (l := r8_11.toList) rfl r8_11_ok ?_
  refine a_if rfl (o_lt rfl rfl) (fun h1 => ?_) (fun h2 => ?_)
  · refine a_nil ?_
    refine tq_n ?_
    refine awp_seq ?_
    refine w_true rfl ?_
    refine awp_skip ?_
    refine tq_n ?_
    refine awp_seq ?_
    refine awp_block ?_
    refine awp_seq ?_
    have hi : i < l.length := by omega
    refine w_reg (l := r8_12.toList) rfl r8_12_ok ?_
    refine a_op rfl (o_ix te43 tn45 rfl rfl rfl (ixm _ _ _ hi)) ?_
    refine a_op rfl ((by first | exact o_ldg tg45 tn45 rfl rfl | exact o_ldpg tg45 tn45 rfl rfl rfl rfl)) ?_
    refine a_op rfl (o_al (N := 5) tz45 rfl rfl rfl) ?_
    refine a_op0 rfl (o_st (N := 3) tn45 rfl rfl rfl rfl rfl) ?_
    refine a_nil ?_
    refine tq_n ?_
    refine awp_seq ?_
    refine w_reg (l := r8_13.toList) rfl r8_13_ok ?_
    refine a_op rfl ((by first | exact o_ldg tg51 tn51 rfl rfl | exact o_ldpg tg51 tn51 rfl rfl rfl rfl)) ?_
    refine a_op rfl ((by first | exact o_fa tf45_1 rfl rfl | exact o_fap tf45_1 rfl rfl)) ?_
    refine a_op rfl ((by first | exact o_ld tg3 rfl rfl | exact o_ldp tg3 rfl rfl rfl rfl)) ?_
    refine a_pure rfl rfl rfl cb35 (seat_ok b4F p (by omega) l[i].stop) ?_
    refine a_op rfl (o_as rfl) ?_
    refine a_op rfl (o_as rfl) ?_
    refine a_op rfl (o_as rfl) ?_
    refine a_nil ?_
    refine tq_n ?_
    refine w_join (fun _ : Unit => True) (fun _ => [(3, .ptr 1 0), (6, .raw (.int .i64 sw)), (7, .ptr 2 0), (9, .mp 3), (10, .slo 4 i 0 i), (43, .sl 4 false (l.map itemAV)), (44, .raw (.int .i64 ((l.length : Nat) : Int))), (45, .raw (.int .i64 ((i : Nat) : Int))), (12, .ptr 5 0), (13, .raw (.int .i64 ((seatI p l[i].stop)))), (14, .raw (.int .i64 ((aF p l[i])))), (15, .raw (.int .i64 (-1)))]) (fun _ => [.var [.sl 1 b.b0 (x.vols.map u8AV), .sl 1 b.b1 (x.caps.map u8AV), .sl 1 b.b2 (x.picks.map u8AV), .sl 1 b.b3 (x.unread.map u8AV), .raw (.int .u8 x.sweeps)], .var (planC b4F p), .var [.sl 1 false ((twoA p sw l).rows.map rowAV), rowAV (twoA p sw l).swept, rowAV (twoA p sw l).over, rowAV (twoA p sw l).rej, .sl 3 false ((twoA p sw l).ev.map evAV), .sl 1 false ((twoB p sw l).rows.map rowAV), rowAV (twoB p sw l).swept, rowAV (twoB p sw l).over, rowAV (twoB p sw l).rej, .sl 3 false ((twoB p sw l).ev.map evAV), rowAV (twoB p sw l).rows.flatten], .mapo (mpG (fun y : ItemR => intAV (bF p y)) (mkM (·.id) (l.take i))), .vec 2 i (((l.take i).map (fun y : ItemR => (⟨y.id, aF p y⟩ : FeedR))).map feedAV), .var (itemAV l[i]).cells]) ?_ ?_
    · refine awp_seq ?_
      refine w_reg (l := r8_14.toList) rfl r8_14_ok ?_
      refine a_op rfl (o_mv rfl) ?_
      refine a_if rfl (o_ge rfl rfl) (fun h3 => ?_) (fun h4 => ?_)
      · refine a_op rfl (o_mv rfl) ?_
        refine a_op rfl ((by first | exact o_fa tf45_2 rfl rfl | exact o_fap tf45_2 rfl rfl)) ?_
        refine a_ifb rfl ((by first | exact o_ld tg4 rfl rfl | exact o_ldp tg4 rfl rfl rfl rfl)) (fun h5 => ?_) (fun h6 => ?_)
        · refine a_op rfl (o_pkt rfl rfl) ?_
          refine a_nil ?_
          refine tq_n ?_
          refine w_true rfl ?_
          obtain ⟨n, hn⟩ : ∃ n : Nat, seatI p l[i].stop = n := ⟨(seatI p l[i].stop).toNat, by omega⟩
          have hnl : n < p.seats.length := by have := seatI_bd p l[i].stop; omega
          refine w_reg (l := r8_15.toList) rfl r8_15_ok ?_
          refine a_op rfl ((by first | exact o_fa tf51_1 rfl rfl | exact o_fap tf51_1 rfl rfl)) ?_
          refine a_op rfl ((by first | exact o_ld tg49 rfl rfl | exact o_ldp tg49 rfl rfl rfl rfl)) ?_
          refine a_op rfl (o_mv rfl) ?_
          refine a_op rfl (o_ix te49 tn89 rfl rfl hn (ixm _ _ _ hnl)) ?_
          refine a_op rfl ((by first | exact o_fa tf89_2 rfl rfl | exact o_fap tf89_2 rfl rfl)) ?_
          refine a_op rfl ((by first | exact o_ld tg3 rfl rfl | exact o_ldp tg3 rfl rfl rfl rfl)) ?_
          refine a_op rfl (o_as rfl) ?_
          refine a_nil ?_
          refine tq_n ?_
          have ha : aF p l[i] = p.seats[n].fst := by rw [aF, if_pos ⟨by omega, by assumption⟩, hn, Int.toNat_natCast, getDg hnl]
          exact ⟨(), trivial, ⟨(by first | exact sub_int rfl (by omega) | rfl | exact sub_int rfl (by rw [ha]) | exact sub_int rfl (by rw [hb])), (by first | exact sub_int rfl (by omega) | rfl | exact sub_int rfl (by rw [ha]) | exact sub_int rfl (by rw [hb])), (by first | exact sub_int rfl (by omega) | rfl | exact sub_int rfl (by rw [ha]) | exact sub_int rfl (by rw [hb])), (by first | exact sub_int rfl (by omega) | rfl | exact sub_int rfl (by rw [ha]) | exact sub_int rfl (by rw [hb])), (by first | exact sub_int rfl (by omega) | rfl | exact sub_int rfl (by rw [ha]) | exact sub_int rfl (by rw [hb])), (by first | exact sub_int rfl (by omega) | rfl | exact sub_int rfl (by rw [ha]) | exact sub_int rfl (by rw [hb])), (by first | exact sub_int rfl (by omega) | rfl | exact sub_int rfl (by rw [ha]) | exact sub_int rfl (by rw [hb])), (by first | exact sub_int rfl (by omega) | rfl | exact sub_int rfl (by rw [ha]) | exact sub_int rfl (by rw [hb])), (by first | exact sub_int rfl (by omega) | rfl | exact sub_int rfl (by rw [ha]) | exact sub_int rfl (by rw [hb])), (by first | exact sub_int rfl (by omega) | rfl | exact sub_int rfl (by rw [ha]) | exact sub_int rfl (by rw [hb])), (by first | exact sub_int rfl (by omega) | rfl | exact sub_int rfl (by rw [ha]) | exact sub_int rfl (by rw [hb])), (by first | exact sub_int rfl (by omega) | rfl | exact sub_int rfl (by rw [ha]) | exact sub_int rfl (by rw [hb])), trivial⟩, rfl⟩
        refine a_op rfl (o_pkt rfl rfl) ?_
        refine a_nil ?_
        refine tq_n ?_
        refine w_false rfl ?_
        refine awp_skip ?_
        refine tq_n ?_
        have ha : aF p l[i] = -1 := by rw [aF, if_neg (fun hh => by have h0 := hh.2; rw [show l[i].rd1 = false by assumption] at h0; cases h0)]
        exact ⟨(), trivial, ⟨(by first | exact sub_int rfl (by omega) | rfl | exact sub_int rfl (by rw [ha]) | exact sub_int rfl (by rw [hb])), (by first | exact sub_int rfl (by omega) | rfl | exact sub_int rfl (by rw [ha]) | exact sub_int rfl (by rw [hb])), (by first | exact sub_int rfl (by omega) | rfl | exact sub_int rfl (by rw [ha]) | exact sub_int rfl (by rw [hb])), (by first | exact sub_int rfl (by omega) | rfl | exact sub_int rfl (by rw [ha]) | exact sub_int rfl (by rw [hb])), (by first | exact sub_int rfl (by omega) | rfl | exact sub_int rfl (by rw [ha]) | exact sub_int rfl (by rw [hb])), (by first | exact sub_int rfl (by omega) | rfl | exact sub_int rfl (by rw [ha]) | exact sub_int rfl (by rw [hb])), (by first | exact sub_int rfl (by omega) | rfl | exact sub_int rfl (by rw [ha]) | exact sub_int rfl (by rw [hb])), (by first | exact sub_int rfl (by omega) | rfl | exact sub_int rfl (by rw [ha]) | exact sub_int rfl (by rw [hb])), (by first | exact sub_int rfl (by omega) | rfl | exact sub_int rfl (by rw [ha]) | exact sub_int rfl (by rw [hb])), (by first | exact sub_int rfl (by omega) | rfl | exact sub_int rfl (by rw [ha]) | exact sub_int rfl (by rw [hb])), (by first | exact sub_int rfl (by omega) | rfl | exact sub_int rfl (by rw [ha]) | exact sub_int rfl (by rw [hb])), (by first | exact sub_int rfl (by omega) | rfl | exact sub_int rfl (by rw [ha]) | exact sub_int rfl (by rw [hb])), trivial⟩, rfl⟩
      refine a_op rfl (o_mv rfl) ?_
      refine a_off rfl ?_
      refine a_off rfl ?_
      refine a_op rfl (o_pkf rfl rfl) ?_
      refine a_nil ?_
      refine tq_n ?_
      refine w_false rfl ?_
      refine awp_skip ?_
      refine tq_n ?_
      have ha : aF p l[i] = -1 := by rw [aF, if_neg (by omega)]
      exact ⟨(), trivial, ⟨(by first | exact sub_int rfl (by omega) | rfl | exact sub_int rfl (by rw [ha]) | exact sub_int rfl (by rw [hb])), (by first | exact sub_int rfl (by omega) | rfl | exact sub_int rfl (by rw [ha]) | exact sub_int rfl (by rw [hb])), (by first | exact sub_int rfl (by omega) | rfl | exact sub_int rfl (by rw [ha]) | exact sub_int rfl (by rw [hb])), (by first | exact sub_int rfl (by omega) | rfl | exact sub_int rfl (by rw [ha]) | exact sub_int rfl (by rw [hb])), (by first | exact sub_int rfl (by omega) | rfl | exact sub_int rfl (by rw [ha]) | exact sub_int rfl (by rw [hb])), (by first | exact sub_int rfl (by omega) | rfl | exact sub_int rfl (by rw [ha]) | exact sub_int rfl (by rw [hb])), (by first | exact sub_int rfl (by omega) | rfl | exact sub_int rfl (by rw [ha]) | exact sub_int rfl (by rw [hb])), (by first | exact sub_int rfl (by omega) | rfl | exact sub_int rfl (by rw [ha]) | exact sub_int rfl (by rw [hb])), (by first | exact sub_int rfl (by omega) | rfl | exact sub_int rfl (by rw [ha]) | exact sub_int rfl (by rw [hb])), (by first | exact sub_int rfl (by omega) | rfl | exact sub_int rfl (by rw [ha]) | exact sub_int rfl (by rw [hb])), (by first | exact sub_int rfl (by omega) | rfl | exact sub_int rfl (by rw [ha]) | exact sub_int rfl (by rw [hb])), (by first | exact sub_int rfl (by omega) | rfl | exact sub_int rfl (by rw [ha]) | exact sub_int rfl (by rw [hb])), trivial⟩, rfl⟩
    intro _ _
    refine w_join (fun _ : Unit => True) (fun _ => [(3, .ptr 1 0), (6, .raw (.int .i64 sw)), (7, .ptr 2 0), (9, .mp 3), (10, .slo 4 i 0 i), (43, .sl 4 false (l.map itemAV)), (44, .raw (.int .i64 ((l.length : Nat) : Int))), (45, .raw (.int .i64 ((i : Nat) : Int))), (12, .ptr 5 0), (14, .raw (.int .i64 ((aF p l[i])))), (15, .raw (.int .i64 ((bF p l[i]))))]) (fun _ => [.var [.sl 1 b.b0 (x.vols.map u8AV), .sl 1 b.b1 (x.caps.map u8AV), .sl 1 b.b2 (x.picks.map u8AV), .sl 1 b.b3 (x.unread.map u8AV), .raw (.int .u8 x.sweeps)], .var (planC b4F p), .var [.sl 1 false ((twoA p sw l).rows.map rowAV), rowAV (twoA p sw l).swept, rowAV (twoA p sw l).over, rowAV (twoA p sw l).rej, .sl 3 false ((twoA p sw l).ev.map evAV), .sl 1 false ((twoB p sw l).rows.map rowAV), rowAV (twoB p sw l).swept, rowAV (twoB p sw l).over, rowAV (twoB p sw l).rej, .sl 3 false ((twoB p sw l).ev.map evAV), rowAV (twoB p sw l).rows.flatten], .mapo (mpG (fun y : ItemR => intAV (bF p y)) (mkM (·.id) (l.take i))), .vec 2 i (((l.take i).map (fun y : ItemR => (⟨y.id, aF p y⟩ : FeedR))).map feedAV), .var (itemAV l[i]).cells]) ?_ ?_
    · refine awp_seq ?_
      refine w_reg (l := r8_16.toList) rfl r8_16_ok ?_
      refine a_op rfl (o_mv rfl) ?_
      refine a_if rfl (o_ge rfl rfl) (fun h7 => ?_) (fun h8 => ?_)
      · refine a_op rfl (o_mv rfl) ?_
        refine a_op rfl ((by first | exact o_fa tf45_3 rfl rfl | exact o_fap tf45_3 rfl rfl)) ?_
        refine a_ifb rfl ((by first | exact o_ld tg4 rfl rfl | exact o_ldp tg4 rfl rfl rfl rfl)) (fun h9 => ?_) (fun h10 => ?_)
        · refine a_op rfl (o_pkt rfl rfl) ?_
          refine a_nil ?_
          refine tq_n ?_
          refine w_true rfl ?_
          obtain ⟨n, hn⟩ : ∃ n : Nat, seatI p l[i].stop = n := ⟨(seatI p l[i].stop).toNat, by omega⟩
          have hnl : n < p.seats.length := by have := seatI_bd p l[i].stop; omega
          refine w_reg (l := r8_17.toList) rfl r8_17_ok ?_
          refine a_op rfl ((by first | exact o_fa tf51_1 rfl rfl | exact o_fap tf51_1 rfl rfl)) ?_
          refine a_op rfl ((by first | exact o_ld tg49 rfl rfl | exact o_ldp tg49 rfl rfl rfl rfl)) ?_
          refine a_op rfl (o_mv rfl) ?_
          refine a_op rfl (o_ix te49 tn89 rfl rfl hn (ixm _ _ _ hnl)) ?_
          refine a_op rfl ((by first | exact o_fa tf89_3 rfl rfl | exact o_fap tf89_3 rfl rfl)) ?_
          refine a_op rfl ((by first | exact o_ld tg3 rfl rfl | exact o_ldp tg3 rfl rfl rfl rfl)) ?_
          refine a_op rfl (o_as rfl) ?_
          refine a_nil ?_
          refine tq_n ?_
          have hb : bF p l[i] = p.seats[n].snd := by rw [bF, if_pos ⟨by omega, by assumption⟩, hn, Int.toNat_natCast, getDg hnl]
          exact ⟨(), trivial, ⟨(by first | exact sub_int rfl (by omega) | rfl | exact sub_int rfl (by rw [ha]) | exact sub_int rfl (by rw [hb])), (by first | exact sub_int rfl (by omega) | rfl | exact sub_int rfl (by rw [ha]) | exact sub_int rfl (by rw [hb])), (by first | exact sub_int rfl (by omega) | rfl | exact sub_int rfl (by rw [ha]) | exact sub_int rfl (by rw [hb])), (by first | exact sub_int rfl (by omega) | rfl | exact sub_int rfl (by rw [ha]) | exact sub_int rfl (by rw [hb])), (by first | exact sub_int rfl (by omega) | rfl | exact sub_int rfl (by rw [ha]) | exact sub_int rfl (by rw [hb])), (by first | exact sub_int rfl (by omega) | rfl | exact sub_int rfl (by rw [ha]) | exact sub_int rfl (by rw [hb])), (by first | exact sub_int rfl (by omega) | rfl | exact sub_int rfl (by rw [ha]) | exact sub_int rfl (by rw [hb])), (by first | exact sub_int rfl (by omega) | rfl | exact sub_int rfl (by rw [ha]) | exact sub_int rfl (by rw [hb])), (by first | exact sub_int rfl (by omega) | rfl | exact sub_int rfl (by rw [ha]) | exact sub_int rfl (by rw [hb])), (by first | exact sub_int rfl (by omega) | rfl | exact sub_int rfl (by rw [ha]) | exact sub_int rfl (by rw [hb])), (by first | exact sub_int rfl (by omega) | rfl | exact sub_int rfl (by rw [ha]) | exact sub_int rfl (by rw [hb])), trivial⟩, rfl⟩
        refine a_op rfl (o_pkt rfl rfl) ?_
        refine a_nil ?_
        refine tq_n ?_
        refine w_false rfl ?_
        refine awp_skip ?_
        refine tq_n ?_
        have hb : bF p l[i] = -1 := by rw [bF, if_neg (fun hh => by have h0 := hh.2; rw [show l[i].rd2 = false by assumption] at h0; cases h0)]
        exact ⟨(), trivial, ⟨(by first | exact sub_int rfl (by omega) | rfl | exact sub_int rfl (by rw [ha]) | exact sub_int rfl (by rw [hb])), (by first | exact sub_int rfl (by omega) | rfl | exact sub_int rfl (by rw [ha]) | exact sub_int rfl (by rw [hb])), (by first | exact sub_int rfl (by omega) | rfl | exact sub_int rfl (by rw [ha]) | exact sub_int rfl (by rw [hb])), (by first | exact sub_int rfl (by omega) | rfl | exact sub_int rfl (by rw [ha]) | exact sub_int rfl (by rw [hb])), (by first | exact sub_int rfl (by omega) | rfl | exact sub_int rfl (by rw [ha]) | exact sub_int rfl (by rw [hb])), (by first | exact sub_int rfl (by omega) | rfl | exact sub_int rfl (by rw [ha]) | exact sub_int rfl (by rw [hb])), (by first | exact sub_int rfl (by omega) | rfl | exact sub_int rfl (by rw [ha]) | exact sub_int rfl (by rw [hb])), (by first | exact sub_int rfl (by omega) | rfl | exact sub_int rfl (by rw [ha]) | exact sub_int rfl (by rw [hb])), (by first | exact sub_int rfl (by omega) | rfl | exact sub_int rfl (by rw [ha]) | exact sub_int rfl (by rw [hb])), (by first | exact sub_int rfl (by omega) | rfl | exact sub_int rfl (by rw [ha]) | exact sub_int rfl (by rw [hb])), (by first | exact sub_int rfl (by omega) | rfl | exact sub_int rfl (by rw [ha]) | exact sub_int rfl (by rw [hb])), trivial⟩, rfl⟩
      refine a_op rfl (o_mv rfl) ?_
      refine a_off rfl ?_
      refine a_off rfl ?_
      refine a_op rfl (o_pkf rfl rfl) ?_
      refine a_nil ?_
      refine tq_n ?_
      refine w_false rfl ?_
      refine awp_skip ?_
      refine tq_n ?_
      have hb : bF p l[i] = -1 := by rw [bF, if_neg (by omega)]
      exact ⟨(), trivial, ⟨(by first | exact sub_int rfl (by omega) | rfl | exact sub_int rfl (by rw [ha]) | exact sub_int rfl (by rw [hb])), (by first | exact sub_int rfl (by omega) | rfl | exact sub_int rfl (by rw [ha]) | exact sub_int rfl (by rw [hb])), (by first | exact sub_int rfl (by omega) | rfl | exact sub_int rfl (by rw [ha]) | exact sub_int rfl (by rw [hb])), (by first | exact sub_int rfl (by omega) | rfl | exact sub_int rfl (by rw [ha]) | exact sub_int rfl (by rw [hb])), (by first | exact sub_int rfl (by omega) | rfl | exact sub_int rfl (by rw [ha]) | exact sub_int rfl (by rw [hb])), (by first | exact sub_int rfl (by omega) | rfl | exact sub_int rfl (by rw [ha]) | exact sub_int rfl (by rw [hb])), (by first | exact sub_int rfl (by omega) | rfl | exact sub_int rfl (by rw [ha]) | exact sub_int rfl (by rw [hb])), (by first | exact sub_int rfl (by omega) | rfl | exact sub_int rfl (by rw [ha]) | exact sub_int rfl (by rw [hb])), (by first | exact sub_int rfl (by omega) | rfl | exact sub_int rfl (by rw [ha]) | exact sub_int rfl (by rw [hb])), (by first | exact sub_int rfl (by omega) | rfl | exact sub_int rfl (by rw [ha]) | exact sub_int rfl (by rw [hb])), (by first | exact sub_int rfl (by omega) | rfl | exact sub_int rfl (by rw [ha]) | exact sub_int rfl (by rw [hb])), trivial⟩, rfl⟩
    intro _ _
    refine awp_seq ?_
    refine w_reg (l := r8_18.toList) rfl r8_18_ok ?_
    refine a_op rfl (o_mv rfl) ?_
    refine a_op rfl ((by first | exact o_fa tf45_0 rfl rfl | exact o_fap tf45_0 rfl rfl)) ?_
    refine a_op rfl ((by first | exact o_ld tg3 rfl rfl | exact o_ldp tg3 rfl rfl rfl rfl)) ?_
    refine a_op rfl (o_mv rfl) ?_
    refine a_op0 rfl (o_muG (f := fun y : ItemR => intAV (bF p y)) (v := l[i]) mt38 k3 rfl rfl rfl rfl) ?_
    refine a_nil ?_
    refine tq_n ?_
    refine w_reg (l := r8_19.toList) rfl r8_19_ok ?_
    refine a_op rfl (o_mv rfl) ?_
    refine a_op rfl ((by first | exact o_fa tf45_0 rfl rfl | exact o_fap tf45_0 rfl rfl)) ?_
    refine a_op rfl ((by first | exact o_ld tg3 rfl rfl | exact o_ldp tg3 rfl rfl rfl rfl)) ?_
    refine a_op rfl (o_mv rfl) ?_
    refine a_op rfl (o_bd tz75 rfl tp75 rfl rfl) ?_
    refine a_op rfl (o_bs tE68 (by decide) rfl rfl rfl) ?_
    refine a_op rfl (o_ap tE68 rfl rfl (by simp; omega) rfl rfl rfl (by simp; omega) (by simp; omega) rfl rfl rfl rfl) ?_
    refine a_op rfl (o_as rfl) ?_
    refine a_nil ?_
    refine bq_n ?_
    refine tq_n ?_
    refine w_view [(3, .ptr 1 0), (6, .raw (.int .i64 sw)), (7, .ptr 2 0), (9, .mp 3), (10, .slo 4 (i + 1) 0 (i + 1)), (43, .sl 4 false (l.map itemAV)), (44, .raw (.int .i64 ((l.length : Nat) : Int))), (45, .raw (.int .i64 ((i : Nat) : Int)))] [.var [.sl 1 b.b0 (x.vols.map u8AV), .sl 1 b.b1 (x.caps.map u8AV), .sl 1 b.b2 (x.picks.map u8AV), .sl 1 b.b3 (x.unread.map u8AV), .raw (.int .u8 x.sweeps)], .var (planC b4F p), .var [.sl 1 false ((twoA p sw l).rows.map rowAV), rowAV (twoA p sw l).swept, rowAV (twoA p sw l).over, rowAV (twoA p sw l).rej, .sl 3 false ((twoA p sw l).ev.map evAV), .sl 1 false ((twoB p sw l).rows.map rowAV), rowAV (twoB p sw l).swept, rowAV (twoB p sw l).over, rowAV (twoB p sw l).rej, .sl 3 false ((twoB p sw l).ev.map evAV), rowAV (twoB p sw l).rows.flatten], .mapo (mpG (fun y : ItemR => intAV (bF p y)) (mput (mkM (·.id) (l.take i)) l[i].id l[i])), .vec 2 (i + 1) (((l.take i).map (fun y : ItemR => (⟨y.id, aF p y⟩ : FeedR))).map feedAV ++ [feedAV ⟨l[i].id, aF p l[i]⟩])] 5 rfl (Nat.le_of_ble_eq_true rfl) (Nat.le_of_ble_eq_true rfl) ⟨⟨_, rfl, (by first | exact .mpK (Nat.le_of_ble_eq_true rfl) | exact .sloK (Nat.le_of_ble_eq_true rfl) | exact .ptrK (Nat.le_of_ble_eq_true rfl) | exact rs_pur (by simp) rfl)⟩, ⟨_, rfl, (by first | exact .mpK (Nat.le_of_ble_eq_true rfl) | exact .sloK (Nat.le_of_ble_eq_true rfl) | exact .ptrK (Nat.le_of_ble_eq_true rfl) | exact rs_pur (by simp) rfl)⟩, ⟨_, rfl, (by first | exact .mpK (Nat.le_of_ble_eq_true rfl) | exact .sloK (Nat.le_of_ble_eq_true rfl) | exact .ptrK (Nat.le_of_ble_eq_true rfl) | exact rs_pur (by simp) rfl)⟩, ⟨_, rfl, (by first | exact .mpK (Nat.le_of_ble_eq_true rfl) | exact .sloK (Nat.le_of_ble_eq_true rfl) | exact .ptrK (Nat.le_of_ble_eq_true rfl) | exact rs_pur (by simp) rfl)⟩, ⟨_, rfl, (by first | exact .mpK (Nat.le_of_ble_eq_true rfl) | exact .sloK (Nat.le_of_ble_eq_true rfl) | exact .ptrK (Nat.le_of_ble_eq_true rfl) | exact rs_pur (by simp) rfl)⟩, ⟨_, rfl, (by first | exact .mpK (Nat.le_of_ble_eq_true rfl) | exact .sloK (Nat.le_of_ble_eq_true rfl) | exact .ptrK (Nat.le_of_ble_eq_true rfl) | exact rs_pur (by simp) rfl)⟩, ⟨_, rfl, (by first | exact .mpK (Nat.le_of_ble_eq_true rfl) | exact .sloK (Nat.le_of_ble_eq_true rfl) | exact .ptrK (Nat.le_of_ble_eq_true rfl) | exact rs_pur (by simp) rfl)⟩, ⟨_, rfl, (by first | exact .mpK (Nat.le_of_ble_eq_true rfl) | exact .sloK (Nat.le_of_ble_eq_true rfl) | exact .ptrK (Nat.le_of_ble_eq_true rfl) | exact rs_pur (by simp) rfl)⟩, trivial⟩ ⟨ors_var ⟨rs_pur (by simp) rfl, rs_pur (by simp) rfl, rs_pur (by simp) rfl, rs_pur (by simp) rfl, rs_pur (by simp) rfl, trivial⟩, ors_var ⟨rs_pur (by simp) rfl, rs_pur (by simp) rfl, rs_pur (by simp) rfl, rs_pur (by simp) rfl, trivial⟩, ors_var ⟨rs_pur (by simp) rfl, rs_pur (by simp) rfl, rs_pur (by simp) rfl, rs_pur (by simp) rfl, rs_pur (by simp) rfl, rs_pur (by simp) rfl, rs_pur (by simp) rfl, rs_pur (by simp) rfl, rs_pur (by simp) rfl, rs_pur (by simp) rfl, rs_pur (by simp) rfl, trivial⟩, ors_mpG (fun x => by simp) _, ors_vec (pu_feed1 ((l.take i).map (fun y : ItemR => (⟨y.id, aF p y⟩ : FeedR))) ⟨l[i].id, aF p l[i]⟩), trivial⟩ ?_
    refine w_reg (l := r8_20.toList) rfl r8_20_ok ?_
    refine a_op rfl (o_add rfl rfl (by simp only [klo, khi]; omega)) ?_
    refine a_op rfl (o_mv rfl) ?_
    refine a_nil ?_
    refine tq_n ?_
    exact ⟨i + 1, ⟨by omega, by omega⟩, ⟨(by first | exact sub_int rfl (by omega) | rfl | exact sub_int rfl (by rw [ha]) | exact sub_int rfl (by rw [hb])), (by first | exact sub_int rfl (by omega) | rfl | exact sub_int rfl (by rw [ha]) | exact sub_int rfl (by rw [hb])), (by first | exact sub_int rfl (by omega) | rfl | exact sub_int rfl (by rw [ha]) | exact sub_int rfl (by rw [hb])), (by first | exact sub_int rfl (by omega) | rfl | exact sub_int rfl (by rw [ha]) | exact sub_int rfl (by rw [hb])), (by first | exact sub_int rfl (by omega) | rfl | exact sub_int rfl (by rw [ha]) | exact sub_int rfl (by rw [hb])), (by first | exact sub_int rfl (by omega) | rfl | exact sub_int rfl (by rw [ha]) | exact sub_int rfl (by rw [hb])), (by first | exact sub_int rfl (by omega) | rfl | exact sub_int rfl (by rw [ha]) | exact sub_int rfl (by rw [hb])), (by first | exact sub_int rfl (by omega) | rfl | exact sub_int rfl (by rw [ha]) | exact sub_int rfl (by rw [hb])), trivial⟩, by rw [mkM_succ (·.id) hi, List.take_succ_eq_append_getElem hi, List.map_append, List.map_append]; rfl⟩
  refine a_nil ?_
  refine tq_n ?_
  refine awp_seq ?_
  refine w_false rfl ?_
  refine awp_exit ?_
  refine tq_x ?_
  refine tq_x ?_
  refine bq_hit ?_
  refine tq_n ?_
  refine awp_seq ?_
  refine w_heq (H1 := [.var [.sl 1 b.b0 (x.vols.map u8AV), .sl 1 b.b1 (x.caps.map u8AV), .sl 1 b.b2 (x.picks.map u8AV), .sl 1 b.b3 (x.unread.map u8AV), .raw (.int .u8 x.sweeps)], .var (planC b4F p), .var [.sl 1 false ((twoA p sw l).rows.map rowAV), rowAV (twoA p sw l).swept, rowAV (twoA p sw l).over, rowAV (twoA p sw l).rej, .sl 3 false ((twoA p sw l).ev.map evAV), .sl 1 false ((twoB p sw l).rows.map rowAV), rowAV (twoB p sw l).swept, rowAV (twoB p sw l).over, rowAV (twoB p sw l).rej, .sl 3 false ((twoB p sw l).ev.map evAV), rowAV (twoB p sw l).rows.flatten], .mapo (mpG (fun y : ItemR => intAV (bF p y)) (mkM (·.id) l)), .vec 2 l.length ((firstL p l).map feedAV)]) (by rw [show i = l.length by omega, List.take_length, ← firstL_eq hck hd]) ?_
  refine w_keep [(3, .ptr 1 0), (6, .raw (.int .i64 sw)), (7, .ptr 2 0), (9, .mp 3), (10, .slo 4 l.length 0 l.length)] ⟨rfl, rfl, rfl, rfl, sub_eq rfl (by rw [show i = l.length by omega]), trivial⟩ ?_
  refine w_reg (l := r8_21.toList) rfl r8_21_ok ?_
  refine a_op rfl ((by first | exact o_fa tf51_0 rfl rfl | exact o_fap tf51_0 rfl rfl)) ?_
  refine a_op rfl ((by first | exact o_ld tg34 rfl rfl | exact o_ldp tg34 rfl rfl rfl rfl)) ?_
  refine a_op rfl (o_mv rfl) ?_
  refine a_op rfl (o_mv rfl) ?_
  refine a_lendF (vs' := [.sl 1 b4F.b0 (p.caps.map intAV), .raw (.int .i64 sw), .sl 2 fL ((firstL p l).map feedAV)]) rfl rfl rfl cb29 (run_good _ p.caps sw _ (firstL p l) hck.r (by omega) (by omega) (first_wrong hck hd (by omega) hid)) ⟨ln_eq (by simp) rfl, ln_eq (by simp) rfl, ln_slo (i := 4) rfl (by rw [List.length_map, firstL_len]) (pu_feed _) rfl, trivial⟩ (by simp) ?_
  rw [show playF p.caps sw (firstL p l) = (twoA p sw l) from rfl]
  refine a_op rfl (o_mv rfl) ?_
  refine a_op rfl (o_ex rfl rfl) ?_
  refine a_op rfl (o_ex rfl rfl) ?_
  refine a_op rfl (o_al (N := 5) tz60 rfl rfl rfl) ?_
  refine a_op0 rfl (o_st (N := 4) tn60 rfl rfl rfl rfl rfl) ?_
  refine a_op rfl (o_as rfl) ?_
  refine a_nil ?_
  refine tq_n ?_
  refine awp_seq ?_
  refine awp_seq ?_
  refine w_reg (l := r8_22.toList) rfl r8_22_ok ?_
  refine a_op rfl (o_mv rfl) ?_
  refine a_op rfl (elD (o_ne rfl rfl) (w := .raw (.bool false)) rfl) ?_
  refine a_op rfl (o_mv rfl) ?_
  refine a_op rfl ((by first | exact o_fa tf60_0 rfl rfl | exact o_fap tf60_0 rfl rfl)) ?_
  refine a_op rfl ((by first | exact o_ld tg57 rfl rfl | exact o_ldp tg57 rfl rfl rfl rfl)) ?_
  refine a_op rfl ((by first | exact o_fa tf62_0 rfl rfl | exact o_fap tf62_0 rfl rfl)) ?_
  refine a_op rfl ((by first | exact o_fa tf60_0 rfl rfl | exact o_fap tf60_0 rfl rfl)) ?_
  refine a_op rfl ((by first | exact o_ld tg57 rfl rfl | exact o_ldp tg57 rfl rfl rfl rfl)) ?_
  refine a_pure rfl rfl rfl cb36 (listsT (twoA p sw l).rows (by omega) (by omega)) ?_
  refine a_op rfl (o_ntt rfl) ?_
  refine a_op rfl (o_pkf rfl rfl) ?_
  refine a_op rfl (o_mv rfl) ?_
  refine a_op rfl ((by first | exact o_fa tf60_2 rfl rfl | exact o_fap tf60_2 rfl rfl)) ?_
  refine a_op rfl ((by first | exact o_ld tg34 rfl rfl | exact o_ldp tg34 rfl rfl rfl rfl)) ?_
  refine a_op rfl ((by first | exact o_fa tf62_0 rfl rfl | exact o_fap tf62_0 rfl rfl)) ?_
  refine a_op rfl ((by first | exact o_fa tf60_2 rfl rfl | exact o_fap tf60_2 rfl rfl)) ?_
  refine a_op rfl ((by first | exact o_ld tg34 rfl rfl | exact o_ldp tg34 rfl rfl rfl rfl)) ?_
  refine a_pure rfl rfl rfl cb37 (sameT (twoA p sw l).over (by omega)) ?_
  refine a_op rfl (o_ntt rfl) ?_
  refine a_op rfl (o_pkf rfl rfl) ?_
  refine a_op rfl (o_mv rfl) ?_
  refine a_op rfl ((by first | exact o_fa tf60_3 rfl rfl | exact o_fap tf60_3 rfl rfl)) ?_
  refine a_op rfl ((by first | exact o_ld tg34 rfl rfl | exact o_ldp tg34 rfl rfl rfl rfl)) ?_
  refine a_op rfl ((by first | exact o_fa tf62_0 rfl rfl | exact o_fap tf62_0 rfl rfl)) ?_
  refine a_op rfl ((by first | exact o_fa tf60_3 rfl rfl | exact o_fap tf60_3 rfl rfl)) ?_
  refine a_op rfl ((by first | exact o_ld tg34 rfl rfl | exact o_ldp tg34 rfl rfl rfl rfl)) ?_
  refine a_pure rfl rfl rfl cb37 (sameT (twoA p sw l).rej (by omega)) ?_
  refine a_op rfl (o_ntt rfl) ?_
  refine a_op rfl (o_pkf rfl rfl) ?_
  refine a_op rfl (o_mv rfl) ?_
  refine a_op rfl ((by first | exact o_fa tf60_1 rfl rfl | exact o_fap tf60_1 rfl rfl)) ?_
  refine a_op rfl ((by first | exact o_ld tg34 rfl rfl | exact o_ldp tg34 rfl rfl rfl rfl)) ?_
  refine a_op rfl ((by first | exact o_fa tf62_0 rfl rfl | exact o_fap tf62_0 rfl rfl)) ?_
  refine a_op rfl ((by first | exact o_fa tf60_1 rfl rfl | exact o_fap tf60_1 rfl rfl)) ?_
  refine a_op rfl ((by first | exact o_ld tg34 rfl rfl | exact o_ldp tg34 rfl rfl rfl rfl)) ?_
  refine a_pure rfl rfl rfl cb37 (sameT (twoA p sw l).swept (by omega)) ?_
  refine a_op rfl (o_ntt rfl) ?_
  refine a_op rfl (o_pkf rfl rfl) ?_
  refine a_op rfl (o_mv rfl) ?_
  refine a_op rfl ((by first | exact o_fa tf60_4 rfl rfl | exact o_fap tf60_4 rfl rfl)) ?_
  refine a_op rfl ((by first | exact o_ld tg58 rfl rfl | exact o_ldp tg58 rfl rfl rfl rfl)) ?_
  refine a_op rfl (o_len rfl rfl (by first | exact List.length_map .. | rfl) tl58) ?_
  refine a_op rfl ((by first | exact o_fa tf62_0 rfl rfl | exact o_fap tf62_0 rfl rfl)) ?_
  refine a_op rfl ((by first | exact o_fa tf60_4 rfl rfl | exact o_fap tf60_4 rfl rfl)) ?_
  refine a_op rfl ((by first | exact o_ld tg58 rfl rfl | exact o_ldp tg58 rfl rfl rfl rfl)) ?_
  refine a_op rfl (o_len rfl rfl (by first | exact List.length_map .. | rfl) tl58) ?_
  refine a_op rfl (elD (o_ne rfl rfl) (w := .raw (.bool false)) (by simp)) ?_
  refine a_op rfl (o_pkf rfl rfl) ?_
  refine a_nil ?_
  refine tq_n ?_
  refine w_false rfl ?_
  refine awp_skip ?_
  refine tq_n ?_
  refine awp_seq ?_
  refine w_reg (l := r8_24.toList) rfl r8_24_ok ?_
  refine a_op rfl (o_as rfl) ?_
  refine a_nil ?_
  refine tq_n ?_
  refine awp_seq ?_
  refine awp_seq ?_
  refine w_own (q := 10) (z := 2) (N := 6) (by decide) rfl rfl rfl ?_
  refine w_reg (l := r8_25.toList) rfl r8_25_ok ?_
  refine a_op rfl ((by first | exact o_ldg tg60 tn60 rfl rfl | exact o_ldpg tg60 tn60 rfl rfl rfl rfl)) ?_
  refine a_pure rfl rfl rfl cb31 (leave_ok (twoA p sw l) (by omega) (by omega)) ?_
  refine a_op rfl (o_len rfl rfl (by first | exact List.length_map .. | rfl) tl34) ?_
  refine a_op rfl (o_mv rfl) ?_
  refine a_nil ?_
  refine tq_n ?_
  refine awp_block ?_
  refine w_loop (fun i : Nat => i ≤ (leftL p sw l).length) (fun i => [(3, .ptr 1 0), (6, .raw (.int .i64 sw)), (7, .ptr 2 0), (9, .mp 3), (10, .slo 6 i 0 i), (146, rowAV (leftL p sw l)), (147, .raw (.int .i64 (((leftL p sw l).length : Nat) : Int))), (148, .raw (.int .i64 ((i : Nat) : Int)))]) (fun i => [.var [.sl 1 b.b0 (x.vols.map u8AV), .sl 1 b.b1 (x.caps.map u8AV), .sl 1 b.b2 (x.picks.map u8AV), .sl 1 b.b3 (x.unread.map u8AV), .raw (.int .u8 x.sweeps)], .var (planC b4F p), .var [.sl 1 false ((twoA p sw l).rows.map rowAV), rowAV (twoA p sw l).swept, rowAV (twoA p sw l).over, rowAV (twoA p sw l).rej, .sl 3 false ((twoA p sw l).ev.map evAV), .sl 1 false ((twoB p sw l).rows.map rowAV), rowAV (twoB p sw l).swept, rowAV (twoB p sw l).over, rowAV (twoB p sw l).rej, .sl 3 false ((twoB p sw l).ev.map evAV), rowAV (twoB p sw l).rows.flatten], .mapo (mpG (fun y : ItemR => intAV (bF p y)) (mkM (·.id) l)), .vec 2 l.length ((firstL p l).map feedAV), .var [.sl 1 false ((twoA p sw l).rows.map rowAV), rowAV (twoA p sw l).swept, rowAV (twoA p sw l).over, rowAV (twoA p sw l).rej, .sl 3 false ((twoA p sw l).ev.map evAV)], .vec 2 i (((secondL p sw l).take i).map feedAV)]) (fun i => (leftL p sw l).length - i) (0) (by simp) ⟨(by first | exact sub_int rfl (by omega) | rfl | exact sub_int rfl (by rw [ha]) | exact sub_int rfl (by rw [hb])), (by first | exact sub_int rfl (by omega) | rfl | exact sub_int rfl (by rw [ha]) | exact sub_int rfl (by rw [hb])), (by first | exact sub_int rfl (by omega) | rfl | exact sub_int rfl (by rw [ha]) | exact sub_int rfl (by rw [hb])), (by first | exact sub_int rfl (by omega) | rfl | exact sub_int rfl (by rw [ha]) | exact sub_int rfl (by rw [hb])), (by first | exact sub_int rfl (by omega) | rfl | exact sub_int rfl (by rw [ha]) | exact sub_int rfl (by rw [hb])), (by first | exact sub_int rfl (by omega) | rfl | exact sub_int rfl (by rw [ha]) | exact sub_int rfl (by rw [hb])), (by first | exact sub_int rfl (by omega) | rfl | exact sub_int rfl (by rw [ha]) | exact sub_int rfl (by rw [hb])), (by first | exact sub_int rfl (by omega) | rfl | exact sub_int rfl (by rw [ha]) | exact sub_int rfl (by rw [hb])), trivial⟩ rfl ?_
  intro i hpi
  unfold b8_1
  refine awp_seq ?_
  refine w_reg (l := r8_26.toList) rfl r8_26_ok ?_
  refine a_if rfl (o_lt rfl rfl) (fun h11 => ?_) (fun h12 => ?_)
  · refine a_nil ?_
    refine tq_n ?_
    refine awp_seq ?_
    refine w_true rfl ?_
    refine awp_skip ?_
    refine tq_n ?_
    refine awp_seq ?_
    refine awp_block ?_
    refine awp_seq ?_
    have hi : i < (leftL p sw l).length := by omega
    obtain ⟨y, hym, hye, hys, _⟩ := left_fed hck hd hsw0.1 _ (List.getElem_mem hi)
    have hmy : mget (mkM (·.id) l) (leftL p sw l)[i] = some y := by rw [← hye]; exact mkM_uniq hd hym
    refine w_reg (l := r8_27.toList) rfl r8_27_ok ?_
    refine a_op rfl (o_ix te34 tn3 rfl rfl rfl (ixm _ _ _ hi)) ?_
    refine a_op rfl ((by first | exact o_ld tg3 rfl rfl | exact o_ldp tg3 rfl rfl rfl rfl)) ?_
    refine a_op rfl (o_as rfl) ?_
    refine a_nil ?_
    refine tq_n ?_
    refine w_reg (l := r8_28.toList) rfl r8_28_ok ?_
    refine a_op rfl (o_mv rfl) ?_
    refine a_op rfl (o_mv rfl) ?_
    refine a_op rfl (o_mv rfl) ?_
    refine a_op rfl (o_mv rfl) ?_
    refine a_op rfl (o_lkS (f := fun y : ItemR => intAV (bF p y)) rfl rfl rfl hmy) ?_
    refine a_op rfl (o_bd tz75 rfl tp75 rfl rfl) ?_
    refine a_op rfl (o_bs tE68 (by decide) rfl rfl rfl) ?_
    refine a_op rfl (o_ap tE68 rfl rfl (by simp [secondL]; omega) rfl rfl rfl (by simp [secondL]; omega) (by simp [secondL]; omega) rfl rfl rfl rfl) ?_
    refine a_op rfl (o_as rfl) ?_
    refine a_nil ?_
    refine bq_n ?_
    refine tq_n ?_
    skip
    refine w_reg (l := r8_29.toList) rfl r8_29_ok ?_
    refine a_op rfl (o_add rfl rfl (by simp only [klo, khi]; omega)) ?_
    refine a_op rfl (o_mv rfl) ?_
    refine a_nil ?_
    refine tq_n ?_
    exact ⟨i + 1, ⟨by omega, by omega⟩, ⟨(by first | exact sub_int rfl (by omega) | rfl | exact sub_int rfl (by rw [ha]) | exact sub_int rfl (by rw [hb])), (by first | exact sub_int rfl (by omega) | rfl | exact sub_int rfl (by rw [ha]) | exact sub_int rfl (by rw [hb])), (by first | exact sub_int rfl (by omega) | rfl | exact sub_int rfl (by rw [ha]) | exact sub_int rfl (by rw [hb])), (by first | exact sub_int rfl (by omega) | rfl | exact sub_int rfl (by rw [ha]) | exact sub_int rfl (by rw [hb])), (by first | exact sub_int rfl (by omega) | rfl | exact sub_int rfl (by rw [ha]) | exact sub_int rfl (by rw [hb])), (by first | exact sub_int rfl (by omega) | rfl | exact sub_int rfl (by rw [ha]) | exact sub_int rfl (by rw [hb])), (by first | exact sub_int rfl (by omega) | rfl | exact sub_int rfl (by rw [ha]) | exact sub_int rfl (by rw [hb])), (by first | exact sub_int rfl (by omega) | rfl | exact sub_int rfl (by rw [ha]) | exact sub_int rfl (by rw [hb])), trivial⟩, by rw [secondL_succ hi (v := bF p y) (by rw [← hye, feed2_eq hck hd hym hys])]; simp only [List.map_append, List.map_cons, List.map_nil]; try rfl⟩
  refine a_nil ?_
  refine tq_n ?_
  refine awp_seq ?_
  refine w_false rfl ?_
  refine awp_exit ?_
  refine tq_x ?_
  refine tq_x ?_
  refine bq_hit ?_
  refine tq_n ?_
  refine awp_seq ?_
  refine w_reg (l := r8_30.toList) rfl r8_30_ok ?_
  refine a_op rfl ((by first | exact o_fa tf51_0 rfl rfl | exact o_fap tf51_0 rfl rfl)) ?_
  refine a_op rfl ((by first | exact o_ld tg34 rfl rfl | exact o_ldp tg34 rfl rfl rfl rfl)) ?_
  refine a_op rfl (o_mv rfl) ?_
  refine a_op rfl (o_mv rfl) ?_
  refine a_lendF (vs' := [.sl 1 b4F.b0 (p.caps.map intAV), .raw (.int .i64 sw), .sl 2 fL ((secondL p sw l).map feedAV)]) rfl rfl rfl cb29 (run_good _ p.caps sw _ (secondL p sw l) hck.r (by omega) (by omega) (second_wrong hck hd (by omega) (by omega) hid)) ⟨ln_eq (by simp) rfl, ln_eq (by simp) rfl, ln_slo (i := 6) rfl (by simp [secondL]; omega) (pu_feed _) (by rw [List.take_of_length_le (by simp [secondL]; omega)]), trivial⟩ (by simp) ?_
  rw [show playF p.caps sw (secondL p sw l) = (twoB p sw l) from rfl]
  refine a_op rfl (o_mv rfl) ?_
  refine a_op rfl (o_ex rfl rfl) ?_
  refine a_op rfl (o_ex rfl rfl) ?_
  refine a_op rfl (o_al (N := 7) tz60 rfl rfl rfl) ?_
  refine a_op0 rfl (o_st (N := 4) tn60 rfl rfl rfl rfl rfl) ?_
  refine a_op rfl (o_as rfl) ?_
  refine a_nil ?_
  refine tq_n ?_
  refine awp_seq ?_
  refine awp_draw ⟨[[], [0], [0, 1], [0, 1, 2], [0, 1, 2, 3], [0, 1, 2], [0, 1, 2, 5], [0, 1, 2, 5, 6], [0, 1, 2, 3, 4, 5, 6, 7], [0, 1, 2, 3, 4, 5, 6, 7, 8], [0, 1, 2, 3, 4, 5, 6, 7, 8, 9], [0, 1, 2, 3, 4, 5, 6, 7, 8, 9, 10], [0, 1, 2, 3, 4, 5, 6, 7, 8, 9, 10, 11], [0, 1, 2, 3, 4, 5, 6, 7, 8, 9, 10], [0, 1, 2, 3, 4, 5, 6, 7, 8, 9, 10, 13], [0, 1, 2, 3, 4, 5, 6, 7, 8, 9, 10, 13, 14], [0, 1, 2, 3, 4, 5, 6, 7, 8, 9, 10, 11, 12, 13, 14, 15], [0, 1, 2, 3, 4, 5, 6, 7, 8, 9, 10, 11, 12, 13, 14, 15, 16], [0, 1, 2, 3, 4, 5, 6, 7, 8, 9, 10, 11, 12, 13, 14, 15, 16, 17], [0, 1, 2, 3, 4, 5, 6, 7, 8, 9, 10, 11, 12, 13, 14, 15, 16, 17, 18], [0, 1, 2, 3, 4, 5, 6, 7, 8, 9, 10, 11, 12, 13, 14, 15, 16, 17, 18, 19], [0, 1, 2, 3, 4, 5, 6, 7, 8, 9, 10, 11, 12, 13, 14, 15, 16, 17, 18], [0, 1, 2, 3, 4, 5, 6, 7, 8, 9, 10, 11, 12, 13, 14, 15, 16, 17, 18, 21], [0, 1, 2, 3, 4, 5, 6, 7, 8, 9, 10, 11, 12, 13, 14, 15, 16, 17, 18, 21, 22], [0, 1, 2, 3, 4, 5, 6, 7, 8, 9, 10, 11, 12, 13, 14, 15, 16, 17, 18, 19, 20, 21, 22, 23], [0, 1, 2, 3, 4, 5, 6, 7, 8, 9, 10, 11, 12, 13, 14, 15, 16, 17, 18, 19, 20, 21, 22, 23, 24], [0, 1, 2, 3, 4, 5, 6, 7, 8, 9, 10, 11, 12, 13, 14, 15, 16, 17, 18, 19, 20, 21, 22, 23, 24, 25], [0, 1, 2, 3, 4, 5, 6, 7, 8, 9, 10, 11, 12, 13, 14, 15, 16, 17, 18, 19, 20, 21, 22, 23, 24, 25, 26], [0, 1, 2, 3, 4, 5, 6, 7, 8, 9, 10, 11, 12, 13, 14, 15, 16, 17, 18, 19, 20, 21, 22, 23, 24, 25, 26, 27], [0, 1, 2, 3, 4, 5, 6, 7, 8, 9, 10, 11, 12, 13, 14, 15, 16, 17, 18, 19, 20, 21, 22, 23, 24, 25, 26], [0, 1, 2, 3, 4, 5, 6, 7, 8, 9, 10, 11, 12, 13, 14, 15, 16, 17, 18, 19, 20, 21, 22, 23, 24, 25, 26, 29], [0, 1, 2, 3, 4, 5, 6, 7, 8, 9, 10, 11, 12, 13, 14, 15, 16, 17, 18, 19, 20, 21, 22, 23, 24, 25, 26, 29, 30], [0, 1, 2, 3, 4, 5, 6, 7, 8, 9, 10, 11, 12, 13, 14, 15, 16, 17, 18, 19, 20, 21, 22, 23, 24, 25, 26, 27, 28, 29, 30, 31], [0, 1, 2, 3, 4, 5, 6, 7, 8, 9, 10, 11, 12, 13, 14, 15, 16, 17, 18, 19, 20, 21, 22, 23, 24, 25, 26, 27, 28, 29, 30, 31, 32], [0, 1, 2, 3, 4, 5, 6, 7, 8, 9, 10, 11, 12, 13, 14, 15, 16, 17, 18, 19, 20, 21, 22, 23, 24, 25, 26, 27, 28, 29, 30, 31, 32, 33], [0, 1, 2, 3, 4, 5, 6, 7, 8, 9, 10, 11, 12, 13, 14, 15, 16, 17, 18, 19, 20, 21, 22, 23, 24, 25, 26, 27, 28, 29, 30, 31, 32, 33, 34], [0, 1, 2, 3, 4, 5, 6, 7, 8, 9, 10, 11, 12, 13, 14, 15, 16, 17, 18, 19, 20, 21, 22, 23, 24, 25, 26, 27, 28, 29, 30, 31, 32, 33, 34, 35], [0, 1, 2, 3, 4, 5, 6, 7, 8, 9, 10, 11, 12, 13, 14, 15, 16, 17, 18, 19, 20, 21, 22, 23, 24, 25, 26, 27, 28, 29, 30, 31, 32, 33, 34], [0, 1, 2, 3, 4, 5, 6, 7, 8, 9, 10, 11, 12, 13, 14, 15, 16, 17, 18, 19, 20, 21, 22, 23, 24, 25, 26, 27, 28, 29, 30, 31, 32, 33, 34, 37], [0, 1, 2, 3, 4, 5, 6, 7, 8, 9, 10, 11, 12, 13, 14, 15, 16, 17, 18, 19, 20, 21, 22, 23, 24, 25, 26, 27, 28, 29, 30, 31, 32, 33, 34, 35, 36, 37, 38], [0, 1, 2, 3, 4, 5, 6, 7, 8, 9, 10, 11, 12, 13, 14, 15, 16, 17, 18, 19, 20, 21, 22, 23, 24, 25, 26, 27, 28, 29, 30, 31, 32, 33, 34, 35, 36, 37, 38, 39], [0, 1, 2, 3, 4, 5, 6, 7, 8, 9, 10, 11, 12, 13, 14, 15, 16, 17, 18, 19, 20, 21, 22, 23, 24, 25, 26, 27, 28, 29, 30, 31, 32, 33, 34, 35, 36, 37, 38, 39, 40], [0, 1, 2, 3, 4, 5, 6, 7, 8, 9, 10, 11, 12, 13, 14, 15, 16, 17, 18, 19, 20, 21, 22, 23, 24, 25, 26, 27, 28, 29, 30, 31, 32, 33, 34, 35, 36, 37, 38, 39, 40, 41], [0, 1, 2, 3, 4, 5, 6, 7, 8, 9, 10, 11, 12, 13, 14, 15, 16, 17, 18, 19, 20, 21, 22, 23, 24, 25, 26, 27, 28, 29, 30, 31, 32, 33, 34, 35, 36, 37, 38, 39, 40, 41, 42], [0, 1, 2, 3, 4, 5, 6, 7, 8, 9, 10, 11, 12, 13, 14, 15, 16, 17, 18, 19, 20, 21, 22, 23, 24, 25, 26, 27, 28, 29, 30, 31, 32, 33, 34, 35, 36, 37, 38, 39, 40, 41, 42, 43]], [[8], [169], [170], [19, 171], [171, 172], [7, 171], [171, 174], [171, 175], [171, 173, 176], [171, 177], [178], [19, 179], [179, 180], [7, 179], [179, 182], [179, 183], [179, 181, 184], [179, 185], [186], [19, 187], [187, 188], [7, 187], [187, 190], [187, 191], [187, 189, 192], [187, 193], [194], [19, 195], [195, 196], [7, 195], [195, 198], [195, 199], [195, 197, 200], [195, 201], [202], [19, 203], [203, 204], [7, 203], [203, 206], [203, 205, 207], [203, 208], [209], [210], [210, 211], [212]], [[], [], [], [], [7], [], [], [2], [], [], [], [], [7], [], [], [2], [], [], [], [], [7], [], [], [2], [], [], [], [], [7], [], [], [2], [], [], [], [7], [], [], [2], [], [], [], [], [], []], [none, none, none, none, none, none, none, none, none, none, none, none, none, none, none, none, none, none, none, none, none, none, none, none, none, none, none, none, none, none, none, none, none, none, none, none, none, none, none, none, none, none, none, none, none]⟩ mo r8_31_ok (by decide +kernel) (l := r8_31.toList) rfl ?_
  refine d_op rfl rfl rfl (fun _ => o_mv rfl) ?_
  refine d_op rfl rfl rfl (fun _ => elD (o_eq rfl rfl) (w := .raw (.bool true)) rfl) ?_
  refine d_op rfl rfl rfl (fun _ => o_mv rfl) ?_
  refine d_op rfl rfl rfl (fun _ => (by first | exact o_fa tf60_0 rfl rfl | exact o_fap tf60_0 rfl rfl)) ?_
  refine d_op rfl rfl rfl (fun _ => (by first | exact o_ld tg57 rfl rfl | exact o_ldp tg57 rfl rfl rfl rfl)) ?_
  refine d_op rfl rfl rfl (fun _ => (by first | exact o_fa tf62_1 rfl rfl | exact o_fap tf62_1 rfl rfl)) ?_
  refine d_op rfl rfl rfl (fun _ => (by first | exact o_fa tf60_0 rfl rfl | exact o_fap tf60_0 rfl rfl)) ?_
  refine d_op rfl rfl rfl (fun _ => (by first | exact o_ld tg57 rfl rfl | exact o_ldp tg57 rfl rfl rfl rfl)) ?_
  refine d_pure rfl rfl rfl rfl cb36 (listsT (twoB p sw l).rows (by omega) (by omega)) ?_
  refine d_op rfl rfl rfl (fun _ => o_pkt rfl rfl) ?_
  refine d_op rfl rfl rfl (fun _ => o_mv rfl) ?_
  refine d_op rfl rfl rfl (fun _ => (by first | exact o_fa tf60_2 rfl rfl | exact o_fap tf60_2 rfl rfl)) ?_
  refine d_op rfl rfl rfl (fun _ => (by first | exact o_ld tg34 rfl rfl | exact o_ldp tg34 rfl rfl rfl rfl)) ?_
  refine d_op rfl rfl rfl (fun _ => (by first | exact o_fa tf62_1 rfl rfl | exact o_fap tf62_1 rfl rfl)) ?_
  refine d_op rfl rfl rfl (fun _ => (by first | exact o_fa tf60_2 rfl rfl | exact o_fap tf60_2 rfl rfl)) ?_
  refine d_op rfl rfl rfl (fun _ => (by first | exact o_ld tg34 rfl rfl | exact o_ldp tg34 rfl rfl rfl rfl)) ?_
  refine d_pure rfl rfl rfl rfl cb37 (sameT (twoB p sw l).over (by omega)) ?_
  refine d_op rfl rfl rfl (fun _ => o_pkt rfl rfl) ?_
  refine d_op rfl rfl rfl (fun _ => o_mv rfl) ?_
  refine d_op rfl rfl rfl (fun _ => (by first | exact o_fa tf60_3 rfl rfl | exact o_fap tf60_3 rfl rfl)) ?_
  refine d_op rfl rfl rfl (fun _ => (by first | exact o_ld tg34 rfl rfl | exact o_ldp tg34 rfl rfl rfl rfl)) ?_
  refine d_op rfl rfl rfl (fun _ => (by first | exact o_fa tf62_1 rfl rfl | exact o_fap tf62_1 rfl rfl)) ?_
  refine d_op rfl rfl rfl (fun _ => (by first | exact o_fa tf60_3 rfl rfl | exact o_fap tf60_3 rfl rfl)) ?_
  refine d_op rfl rfl rfl (fun _ => (by first | exact o_ld tg34 rfl rfl | exact o_ldp tg34 rfl rfl rfl rfl)) ?_
  refine d_pure rfl rfl rfl rfl cb37 (sameT (twoB p sw l).rej (by omega)) ?_
  refine d_op rfl rfl rfl (fun _ => o_pkt rfl rfl) ?_
  refine d_op rfl rfl rfl (fun _ => o_mv rfl) ?_
  refine d_op rfl rfl rfl (fun _ => (by first | exact o_fa tf60_1 rfl rfl | exact o_fap tf60_1 rfl rfl)) ?_
  refine d_op rfl rfl rfl (fun _ => (by first | exact o_ld tg34 rfl rfl | exact o_ldp tg34 rfl rfl rfl rfl)) ?_
  refine d_op rfl rfl rfl (fun _ => (by first | exact o_fa tf62_1 rfl rfl | exact o_fap tf62_1 rfl rfl)) ?_
  refine d_op rfl rfl rfl (fun _ => (by first | exact o_fa tf60_1 rfl rfl | exact o_fap tf60_1 rfl rfl)) ?_
  refine d_op rfl rfl rfl (fun _ => (by first | exact o_ld tg34 rfl rfl | exact o_ldp tg34 rfl rfl rfl rfl)) ?_
  refine d_pure rfl rfl rfl rfl cb37 (sameT (twoB p sw l).swept (by omega)) ?_
  refine d_op rfl rfl rfl (fun _ => o_pkt rfl rfl) ?_
  refine d_op rfl rfl rfl (fun _ => o_mv rfl) ?_
  refine d_op rfl rfl rfl (fun _ => (by first | exact o_ldg tg60 tn60 rfl rfl | exact o_ldpg tg60 tn60 rfl rfl rfl rfl)) ?_
  refine d_pure rfl rfl rfl rfl cb31 (leave_ok (twoB p sw l) (by omega) (by omega)) ?_
  refine d_op rfl rfl rfl (fun _ => (by first | exact o_fa tf62_2 rfl rfl | exact o_fap tf62_2 rfl rfl)) ?_
  refine d_op rfl rfl rfl (fun _ => (by first | exact o_ld tg34 rfl rfl | exact o_ldp tg34 rfl rfl rfl rfl)) ?_
  refine d_pure rfl rfl rfl rfl cb37 (sameT (twoB p sw l).rows.flatten (by omega)) ?_
  refine d_op rfl rfl rfl (fun _ => o_pkt rfl rfl) ?_
  refine d_op rfl rfl rfl (fun _ => o_mv rfl) ?_
  refine d_pure rfl rfl rfl rfl cb32 awake_ok ?_
  refine d_op rfl rfl rfl (fun _ => o_pkt rfl rfl) ?_
  refine d_op rfl rfl rfl (fun _ => o_as rfl) ?_
  refine d_nil ?_
  refine tq_n ?_
  refine awp_ret ?_
  refine r_one rfl ⟨rfl, trivial⟩ ?_
  exact rs_pur (by simp) rfl
theorem passes_ok (b : B4) (x : CaseR) (hx : x.ok) : PureCall Try.prog GL 8 [caseAV b x] (.raw (.bool true)) := by
  by_cases hP : (planF x).2 = 0
  · exact passes_good b x hx hP
  · exact passes_bad b x hx hP
end Go.Ab.S
