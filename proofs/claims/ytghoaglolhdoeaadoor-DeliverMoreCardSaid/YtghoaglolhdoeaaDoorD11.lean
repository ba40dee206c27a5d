/- What functions of this program compute, and the laws of what they compute, under the bounds on lengths that each contract states. -/
import Derived.Test.YtghoaglolhdoeaaDoorD10
namespace Go.Ab.D
open Go Go.Ab Go.Proofs
theorem good_rules (H : Heap) (l : List RuleR) : (l.map ruleAV).all (AV.goodPart H) = true := List.all_eq_true.2 (by intro y hy; obtain ⟨a, _, rfl⟩ := List.mem_map.1 hy; rfl)
theorem good_ints (H : Heap) (l : List Int) : (l.map intAV).all (AV.goodPart H) = true := List.all_eq_true.2 (by intro y hy; obtain ⟨a, _, rfl⟩ := List.mem_map.1 hy; rfl)
theorem good_drop {H : Heap} {l : List AV} (n : Nat) (h : l.all (AV.goodPart H) = true) : (l.drop n).all (AV.goodPart H) = true := by
  rw [List.all_eq_true] at h ⊢; exact fun x hx => h x (List.mem_of_mem_drop hx)
theorem o_apcD {P : Program} {F : Frm} {H : Heap} {e t : TypeId} {x y : Operand} {v : AV} {q ver len z bytes ver' len' : Nat} {zs : List Value} {x0 : AV} {es new out : List AV} (he : ElemOk P t e z zs x0 bytes) (hs : evx F x = some (.slo q ver 0 len)) (hH : H[q]? = some (.vec z ver es)) (hy : evx F y = some v) (hnew : srcElems H z v = some new)
    (hg : new.all (AV.goodPart H) = true) (hb : len + new.length ≤ es.length) (hver : ver + 1 = ver') (hlen' : len + new.length = len') (hout : es.take len ++ new = out) :
    OpOk P (.call { callee := .builtin .append, args := #[x, y], argTypes := #[t, t] }) F H (.slo q ver' 0 len') (H.set q (.vec z ver' out)) := by
  subst hver hlen' hout
  intro K C ρ oo ho hp hH0 hρ
  subst hH0
  obtain ⟨u, C', h1, h2, h3, h4, h5⟩ := append_cut (P := P) hp (ty := oo.type) he.ht he.hz (evx_eq hs ▸ hρ x) (evx_eq hy ▸ hρ y) hH hnew hg hb
  exact ⟨_, _, C', by rw [append_exec ho, h1]; rfl, .inl rfl, h2, h3, h4, h5⟩
theorem drop_pred {hol : List Int} {d : Int} {i : Nat} (h0 : 0 < i) (h : i ≤ hol.length) (hb : ∀ y ∈ hol.drop i, d < y) (hd : d < hol[i - 1]'(by omega)) : ∀ y ∈ hol.drop (i - 1), d < y := by
  intro y hy
  rw [List.drop_eq_getElem_cons (by omega), show i - 1 + 1 = i by omega] at hy
  rcases List.mem_cons.1 hy with rfl | hy
  · exact hd
  · exact hb y hy

noncomputable def r4_0 : Array Oper := opsAt Tryd.f4 [0]
theorem r4_0_ok : dstOk 207 r4_0.toList = true ∧ r4_0.toList.all (fun o => noDefer o.op) = true := by decide +kernel
noncomputable def r4_1 : Array Oper := opsAt Tryd.f4 [1, 0]
theorem r4_1_ok : dstOk 207 r4_1.toList = true ∧ r4_1.toList.all (fun o => noDefer o.op) = true := by decide +kernel
noncomputable def r4_2 : Array Oper := opsAt Tryd.f4 [1, 1, 0]
theorem r4_2_ok : dstOk 207 r4_2.toList = true ∧ r4_2.toList.all (fun o => noDefer o.op) = true := by decide +kernel
noncomputable def r4_3 : Array Oper := opsAt Tryd.f4 [1, 1, 1, 0]
theorem r4_3_ok : dstOk 207 r4_3.toList = true ∧ r4_3.toList.all (fun o => noDefer o.op) = true := by decide +kernel
noncomputable def r4_4 : Array Oper := opsAt Tryd.f4 [1, 1, 1, 1, 0, 0]
theorem r4_4_ok : dstOk 207 r4_4.toList = true ∧ r4_4.toList.all (fun o => noDefer o.op) = true := by decide +kernel
noncomputable def r4_5 : Array Oper := opsAt Tryd.f4 [1, 1, 1, 1, 0, 1, 0, 0, 0]
theorem r4_5_ok : dstOk 207 r4_5.toList = true ∧ r4_5.toList.all (fun o => noDefer o.op) = true := by decide +kernel
noncomputable def r4_6 : Array Oper := opsAt Tryd.f4 [1, 1, 1, 1, 0, 1, 0, 0, 1, 1, 0, 0, 0]
theorem r4_6_ok : dstOk 207 r4_6.toList = true ∧ r4_6.toList.all (fun o => noDefer o.op) = true := by decide +kernel
noncomputable def r4_7 : Array Oper := opsAt Tryd.f4 [1, 1, 1, 1, 0, 1, 0, 0, 1, 1, 0, 0, 1]
theorem r4_7_ok : dstOk 207 r4_7.toList = true ∧ r4_7.toList.all (fun o => noDefer o.op) = true := by decide +kernel
noncomputable def r4_8 : Array Oper := opsAt Tryd.f4 [1, 1, 1, 1, 0, 1, 0, 0, 1, 1, 1]
theorem r4_8_ok : dstOk 207 r4_8.toList = true ∧ r4_8.toList.all (fun o => noDefer o.op) = true := by decide +kernel
noncomputable def b4_0 : Code := (.seq (.region 5 r4_5 false) (.seq (.cond (.tmp 38) .skip (.exit 0)) (.seq (.block 1 (.seq (.region 6 r4_6 false) (.region 7 r4_7 false))) (.region 8 r4_8 false))))
noncomputable def r4_9 : Array Oper := opsAt Tryd.f4 [1, 1, 1, 1, 1, 0]
theorem r4_9_ok : dstOk 207 r4_9.toList = true ∧ r4_9.toList.all (fun o => noDefer o.op) = true := by decide +kernel
noncomputable def r4_10 : Array Oper := opsAt Tryd.f4 [1, 1, 1, 1, 1, 1, 0]
theorem r4_10_ok : dstOk 207 r4_10.toList = true ∧ r4_10.toList.all (fun o => noDefer o.op) = true := by decide +kernel
noncomputable def r4_11 : Array Oper := opsAt Tryd.f4 [1, 1, 1, 1, 1, 1, 1, 0, 0]
theorem r4_11_ok : dstOk 207 r4_11.toList = true ∧ r4_11.toList.all (fun o => noDefer o.op) = true := by decide +kernel
noncomputable def r4_12 : Array Oper := opsAt Tryd.f4 [1, 1, 1, 1, 1, 1, 1, 0, 1, 0, 0, 0, 0]
theorem r4_12_ok : dstOk 207 r4_12.toList = true ∧ r4_12.toList.all (fun o => noDefer o.op) = true := by decide +kernel
noncomputable def r4_14 : Array Oper := opsAt Tryd.f4 [1, 1, 1, 1, 1, 1, 1, 0, 1, 0, 0, 1, 0, 0, 0, 0]
theorem r4_14_ok : dstOk 207 r4_14.toList = true ∧ r4_14.toList.all (fun o => noDefer o.op) = true := by decide +kernel
noncomputable def r4_15 : Array Oper := opsAt Tryd.f4 [1, 1, 1, 1, 1, 1, 1, 0, 1, 0, 0, 1, 0, 0, 0, 1, 0, 0]
theorem r4_15_ok : dstOk 207 r4_15.toList = true ∧ r4_15.toList.all (fun o => noDefer o.op) = true := by decide +kernel
noncomputable def r4_16 : Array Oper := opsAt Tryd.f4 [1, 1, 1, 1, 1, 1, 1, 0, 1, 0, 0, 1, 0, 0, 1]
theorem r4_16_ok : dstOk 207 r4_16.toList = true ∧ r4_16.toList.all (fun o => noDefer o.op) = true := by decide +kernel
noncomputable def r4_13 : Array Oper := opsAt Tryd.f4 [1, 1, 1, 1, 1, 1, 1, 0, 1, 0, 0, 1, 1]
theorem r4_13_ok : dstOk 207 r4_13.toList = true ∧ r4_13.toList.all (fun o => noDefer o.op) = true := by decide +kernel
noncomputable def b4_1 : Code := (.seq (.seq (.region 12 r4_12 true) (.cond (.tmp 85) .skip (.exit 2))) (.seq (.block 3 (.seq (.seq (.region 14 r4_14 true) (.cond (.tmp 97) (.seq (.region 15 r4_15 true) (.exit 2)) .skip)) (.region 16 r4_16 true))) (.region 13 r4_13 false)))
noncomputable def r4_17 : Array Oper := opsAt Tryd.f4 [1, 1, 1, 1, 1, 1, 1, 1, 0, 0]
theorem r4_17_ok : dstOk 207 r4_17.toList = true ∧ r4_17.toList.all (fun o => noDefer o.op) = true := by decide +kernel
noncomputable def r4_18 : Array Oper := opsAt Tryd.f4 [1, 1, 1, 1, 1, 1, 1, 1, 0, 1, 0, 0, 0]
theorem r4_18_ok : dstOk 207 r4_18.toList = true ∧ r4_18.toList.all (fun o => noDefer o.op) = true := by decide +kernel
noncomputable def r4_19 : Array Oper := opsAt Tryd.f4 [1, 1, 1, 1, 1, 1, 1, 1, 0, 1, 0, 0, 1, 1, 0, 0, 0]
theorem r4_19_ok : dstOk 207 r4_19.toList = true ∧ r4_19.toList.all (fun o => noDefer o.op) = true := by decide +kernel
noncomputable def r4_20 : Array Oper := opsAt Tryd.f4 [1, 1, 1, 1, 1, 1, 1, 1, 0, 1, 0, 0, 1, 1, 0, 0, 1, 0]
theorem r4_20_ok : dstOk 207 r4_20.toList = true ∧ r4_20.toList.all (fun o => noDefer o.op) = true := by decide +kernel
noncomputable def r4_21 : Array Oper := opsAt Tryd.f4 [1, 1, 1, 1, 1, 1, 1, 1, 0, 1, 0, 0, 1, 1, 0, 0, 1, 1, 0, 0]
theorem r4_21_ok : dstOk 207 r4_21.toList = true ∧ r4_21.toList.all (fun o => noDefer o.op) = true := by decide +kernel
noncomputable def r4_22 : Array Oper := opsAt Tryd.f4 [1, 1, 1, 1, 1, 1, 1, 1, 0, 1, 0, 0, 1, 1, 0, 0, 1, 1, 0, 1, 0, 0]
theorem r4_22_ok : dstOk 207 r4_22.toList = true ∧ r4_22.toList.all (fun o => noDefer o.op) = true := by decide +kernel
noncomputable def r4_23 : Array Oper := opsAt Tryd.f4 [1, 1, 1, 1, 1, 1, 1, 1, 0, 1, 0, 0, 1, 1, 0, 0, 1, 1, 1, 0, 0]
theorem r4_23_ok : dstOk 207 r4_23.toList = true ∧ r4_23.toList.all (fun o => noDefer o.op) = true := by decide +kernel
noncomputable def r4_24 : Array Oper := opsAt Tryd.f4 [1, 1, 1, 1, 1, 1, 1, 1, 0, 1, 0, 0, 1, 1, 0, 0, 1, 1, 1, 0, 1, 0, 0]
theorem r4_24_ok : dstOk 207 r4_24.toList = true ∧ r4_24.toList.all (fun o => noDefer o.op) = true := by decide +kernel
noncomputable def r4_25 : Array Oper := opsAt Tryd.f4 [1, 1, 1, 1, 1, 1, 1, 1, 0, 1, 0, 0, 1, 1, 0, 0, 1, 1, 1, 0, 1, 0, 1, 0, 0]
theorem r4_25_ok : dstOk 207 r4_25.toList = true ∧ r4_25.toList.all (fun o => noDefer o.op) = true := by decide +kernel
noncomputable def r4_26 : Array Oper := opsAt Tryd.f4 [1, 1, 1, 1, 1, 1, 1, 1, 0, 1, 0, 0, 1, 1, 0, 0, 1, 1, 1, 0, 1, 1, 0]
theorem r4_26_ok : dstOk 207 r4_26.toList = true ∧ r4_26.toList.all (fun o => noDefer o.op) = true := by decide +kernel
noncomputable def r4_27 : Array Oper := opsAt Tryd.f4 [1, 1, 1, 1, 1, 1, 1, 1, 0, 1, 0, 0, 1, 1, 0, 0, 1, 1, 1, 0, 1, 1, 1, 0, 0]
theorem r4_27_ok : dstOk 207 r4_27.toList = true ∧ r4_27.toList.all (fun o => noDefer o.op) = true := by decide +kernel
noncomputable def r4_28 : Array Oper := opsAt Tryd.f4 [1, 1, 1, 1, 1, 1, 1, 1, 0, 1, 0, 0, 1, 1, 0, 0, 1, 1, 1, 1, 0]
theorem r4_28_ok : dstOk 207 r4_28.toList = true ∧ r4_28.toList.all (fun o => noDefer o.op) = true := by decide +kernel
noncomputable def r4_29 : Array Oper := opsAt Tryd.f4 [1, 1, 1, 1, 1, 1, 1, 1, 0, 1, 0, 0, 1, 1, 0, 0, 1, 1, 1, 1, 1, 0, 0]
theorem r4_29_ok : dstOk 207 r4_29.toList = true ∧ r4_29.toList.all (fun o => noDefer o.op) = true := by decide +kernel
noncomputable def r4_30 : Array Oper := opsAt Tryd.f4 [1, 1, 1, 1, 1, 1, 1, 1, 0, 1, 0, 0, 1, 1, 1]
theorem r4_30_ok : dstOk 207 r4_30.toList = true ∧ r4_30.toList.all (fun o => noDefer o.op) = true := by decide +kernel
noncomputable def b4_2 : Code := (.seq (.region 18 r4_18 false) (.seq (.cond (.tmp 126) .skip (.exit 4)) (.seq (.block 5 (.seq (.region 19 r4_19 false) (.seq (.region 20 r4_20 true) (.seq (.seq (.region 21 r4_21 false) (.cond (.tmp 159) (.seq (.region 22 r4_22 false) .ret) .skip)) (.seq (.seq (.region 23 r4_23 false) (.cond (.tmp 165) (.seq (.region 24 r4_24 false) (.cond (.tmp 172) (.seq (.region 25 r4_25 false) .ret) .skip)) (.seq (.region 26 r4_26 false) (.cond (.tmp 178) (.seq (.region 27 r4_27 false) .ret) .skip)))) (.seq (.region 28 r4_28 false) (.cond (.tmp 204) (.seq (.region 29 r4_29 false) .ret) .skip))))))) (.region 30 r4_30 false))))
noncomputable def r4_31 : Array Oper := opsAt Tryd.f4 [1, 1, 1, 1, 1, 1, 1, 1, 1, 0]
theorem r4_31_ok : dstOk 207 r4_31.toList = true ∧ r4_31.toList.all (fun o => noDefer o.op) = true := by decide +kernel
noncomputable def c4 : Code := (.seq (.region 0 r4_0 false) (.seq (.region 1 r4_1 false) (.seq (.region 2 r4_2 false) (.seq (.region 3 r4_3 false) (.seq (.seq (.region 4 r4_4 false) (.block 0 (.loop b4_0))) (.seq (.region 9 r4_9 true) (.seq (.region 10 r4_10 false) (.seq (.seq (.region 11 r4_11 false) (.block 2 (.loop b4_1))) (.seq (.seq (.region 17 r4_17 false) (.block 4 (.loop b4_2))) (.seq (.region 31 r4_31 false) .ret))))))))))
theorem body4 : Tryd.f4.body = some c4 := by kernel_rfl
set_option maxHeartbeats 4000000 in
theorem more_ok (b0 : Bool) (l : List NoteR) (hl0 : l.length ≤ 9223372036854775807) (hx : ∀ x ∈ l, x.ok) (x : NoteR) (hxo : x.ok) (b1 : Bool) (fl : List Int) (hl1 : fl.length ≤ 9223372036854775807) (hfl : ∀ x ∈ fl, u8r x) (day : Int) (hd : 0 ≤ day ∧ day ≤ 65535) : PureCall Tryd.prog GL 4 [.sl 4 b0 (l.map noteAV), noteAV x, .sl 1 b1 (fl.map u8AV), .raw (.int .u16 day)] (.raw (.bool true)) := by
  refine pure_of_body Tryd.func4 body4 (Nat.le_of_ble_eq_true rfl) (by simp) (by simp) ?_
  refine w_keep [(0, .sl 4 b0 (l.map noteAV)), (1, noteAV x), (2, .sl 1 b1 (fl.map u8AV)), (3, .raw (.int .u16 day))] ⟨rfl, rfl, rfl, rfl, trivial⟩ ?_
  unfold c4
  have hR := rulesF_len l; have hRx := rulesF_ok hx; have hHO := offF_len fl; have h6 := sixL_len 6; have hXo := ruledF_ok hxo
  have hHp := right_pw (offF_right fl)
  have hRX : ∀ y ∈ (rulesF l) ++ [(ruledF x)], y.ok := by
    intro y hy; rcases List.mem_append.1 hy with hy | hy
    · exact hRx y hy
    · rw [List.mem_singleton.1 hy]; exact hXo
  refine awp_seq ?_
  refine w_reg (l := r4_0.toList) rfl r4_0_ok ?_
  refine a_op rfl (o_box (N := 0) rfl (by rfl) rfl rfl) ?_
  refine a_op rfl (o_as rfl) ?_
  refine a_nil ?_
  refine tq_n ?_
  refine awp_seq ?_
  refine w_reg (l := r4_1.toList) rfl r4_1_ok ?_
  refine a_pure rfl rfl rfl cb11 (six_ok) ?_
  refine a_op rfl (o_mv rfl) ?_
  refine a_pure rfl rfl rfl cb12 (rules_ok _ _ (by omega) hx) ?_
  refine a_op rfl (o_mv rfl) ?_
  refine a_pure rfl rfl rfl cb13 (off_ok _ _ (by omega) hfl) ?_
  refine a_op rfl (o_mv rfl) ?_
  refine a_op rfl (o_rem rfl rfl (by omega) (by omega)) ?_
  refine a_op rfl (o_cv tk24 tk3 rfl (by simp only [klo, khi]; omega)) ?_
  refine a_op rfl (o_al (N := 1) tz30 rfl rfl rfl) ?_
  refine a_op0 rfl (o_st (N := 3) tn30 rfl rfl (by first | exact good_slo rfl | rfl | (simp [AV.goodPart, AV.good, AV.isCell, fresh, nilS, Value.oneCell']; done)) rfl rfl) ?_
  refine a_op rfl (o_as rfl) ?_
  refine a_op rfl (o_as rfl) ?_
  refine a_op rfl (o_as rfl) ?_
  refine a_nil ?_
  refine tq_n ?_
  refine awp_seq ?_
  refine w_reg (l := r4_2.toList) rfl r4_2_ok ?_
  refine a_op rfl ((by first | exact o_ldg tg44 tn44 rfl rfl | exact o_ldpg tg44 tn44 rfl rfl rfl rfl)) ?_
  refine a_pure rfl rfl rfl cb16 (ruled_ok _ hxo) ?_
  refine a_op rfl (o_al (N := 2) tz37 rfl rfl rfl) ?_
  refine a_op0 rfl (o_st (N := 4) tn37 rfl rfl (by first | exact good_slo rfl | rfl | (simp [AV.goodPart, AV.good, AV.isCell, fresh, nilS, Value.oneCell']; done)) rfl rfl) ?_
  refine a_nil ?_
  refine tq_n ?_
  refine awp_seq ?_
  refine w_reg (l := r4_3.toList) rfl r4_3_ok ?_
  refine a_op rfl (o_as rfl) ?_
  refine a_nil ?_
  refine tq_n ?_
  refine awp_seq ?_
  refine awp_seq ?_
  refine w_reg (l := r4_4.toList) rfl r4_4_ok ?_
  refine a_op rfl (o_mv rfl) ?_
  refine a_op rfl (o_len rfl rfl (by first | exact List.length_map .. | rfl) tl32) ?_
  refine a_op rfl (o_mv rfl) ?_
  refine a_nil ?_
  refine tq_n ?_
  refine awp_block ?_
  refine w_loop (fun k : Nat => k ≤ (rulesF l).length) (fun k => [(9, .ptr 1 0), (10, .sl 5 false ((rulesF l).map ruleAV)), (11, .sl 1 false ((offF fl).map intAV)), (12, .raw (.int .i64 (day % 2001))), (13, .ptr 2 0), (14, .raw (.bool (hasB (ruledF x) (rulesF l) (k)))), (35, .sl 5 false ((rulesF l).map ruleAV)), (36, .raw (.int .i64 (((rulesF l).length : Nat) : Int))), (37, .raw (.int .i64 ((k : Nat) : Int)))]) (fun _ => [.var (noteAV x).cells, .var [nilS, nilS, nilS, .sl 8 false ((sixL 6).map ptAV)], .var (ruleAV (ruledF x)).cells]) (fun k => (rulesF l).length - k) (0) (by omega) ⟨(by first | exact sub_int rfl (by omega) | rfl | exact sub_eq rfl (by rw [hLA]) | exact sub_eq rfl (by simp)), (by first | exact sub_int rfl (by omega) | rfl | exact sub_eq rfl (by rw [hLA]) | exact sub_eq rfl (by simp)), (by first | exact sub_int rfl (by omega) | rfl | exact sub_eq rfl (by rw [hLA]) | exact sub_eq rfl (by simp)), (by first | exact sub_int rfl (by omega) | rfl | exact sub_eq rfl (by rw [hLA]) | exact sub_eq rfl (by simp)), (by first | exact sub_int rfl (by omega) | rfl | exact sub_eq rfl (by rw [hLA]) | exact sub_eq rfl (by simp)), (by first | exact sub_int rfl (by omega) | rfl | exact sub_eq rfl (by rw [hLA]) | exact sub_eq rfl (by simp)), (by first | exact sub_int rfl (by omega) | rfl | exact sub_eq rfl (by rw [hLA]) | exact sub_eq rfl (by simp)), (by first | exact sub_int rfl (by omega) | rfl | exact sub_eq rfl (by rw [hLA]) | exact sub_eq rfl (by simp)), (by first | exact sub_int rfl (by omega) | rfl | exact sub_eq rfl (by rw [hLA]) | exact sub_eq rfl (by simp)), trivial⟩ rfl ?_
  intro kA hA
  unfold b4_0
  refine awp_seq ?_
  refine w_reg (l := r4_5.toList) rfl r4_5_ok ?_
  refine a_if rfl (o_lt rfl rfl) (fun h1 => ?_) (fun h2 => ?_)
  · refine a_nil ?_
    refine tq_n ?_
    refine awp_seq ?_
    refine w_true rfl ?_
    refine awp_skip ?_
    refine tq_n ?_
    refine awp_seq ?_
    refine awp_block ?_
    refine awp_seq ?_
    have hK : kA < (rulesF l).length := by omega
    refine w_reg (l := r4_6.toList) rfl r4_6_ok ?_
    refine a_op rfl (o_ix te32 tn37 rfl rfl rfl (ixm _ _ _ hK)) ?_
    refine a_op rfl ((by first | exact o_ldg tg37 tn37 rfl rfl | exact o_ldpg tg37 tn37 rfl rfl rfl rfl)) ?_
    refine a_op rfl (o_al (N := 3) tz37 rfl rfl rfl) ?_
    refine a_op0 rfl (o_st (N := 4) tn37 rfl rfl (by first | exact good_slo rfl | rfl | (simp [AV.goodPart, AV.good, AV.isCell, fresh, nilS, Value.oneCell']; done)) rfl rfl) ?_
    refine a_nil ?_
    refine tq_n ?_
    refine w_reg (l := r4_7.toList) rfl r4_7_ok ?_
    refine a_ifb rfl (o_mv rfl) (fun h3 => ?_) (fun h4 => ?_)
    · refine a_op rfl (o_mv rfl) ?_
      refine a_off rfl ?_
      refine a_off rfl ?_
      refine a_off rfl ?_
      refine a_off rfl ?_
      refine a_off rfl ?_
      refine a_off rfl ?_
      refine a_off rfl ?_
      refine a_off rfl ?_
      refine a_off rfl ?_
      refine a_off rfl ?_
      refine a_off rfl ?_
      refine a_off rfl ?_
      refine a_op rfl (o_pkt rfl rfl) ?_
      refine a_op rfl (o_as rfl) ?_
      refine a_nil ?_
      refine bq_n ?_
      refine tq_n ?_
      refine w_view [(9, .ptr 1 0), (10, .sl 5 false ((rulesF l).map ruleAV)), (11, .sl 1 false ((offF fl).map intAV)), (12, .raw (.int .i64 (day % 2001))), (13, .ptr 2 0), (14, .raw (.bool (hasB (ruledF x) (rulesF l) (kA + 1)))), (35, .sl 5 false ((rulesF l).map ruleAV)), (36, .raw (.int .i64 (((rulesF l).length : Nat) : Int))), (37, .raw (.int .i64 ((kA : Nat) : Int)))] ([.var (noteAV x).cells, .var [nilS, nilS, nilS, .sl 8 false ((sixL 6).map ptAV)], .var (ruleAV (ruledF x)).cells]) 3 rfl (Nat.le_of_ble_eq_true rfl) (Nat.le_of_ble_eq_true rfl) ⟨⟨_, rfl, (by first | exact .sloK (Nat.le_of_ble_eq_true rfl) | exact .ptrK (Nat.le_of_ble_eq_true rfl) | exact rs_pur (by simp) rfl)⟩, ⟨_, rfl, (by first | exact .sloK (Nat.le_of_ble_eq_true rfl) | exact .ptrK (Nat.le_of_ble_eq_true rfl) | exact rs_pur (by simp) rfl)⟩, ⟨_, rfl, (by first | exact .sloK (Nat.le_of_ble_eq_true rfl) | exact .ptrK (Nat.le_of_ble_eq_true rfl) | exact rs_pur (by simp) rfl)⟩, ⟨_, rfl, (by first | exact .sloK (Nat.le_of_ble_eq_true rfl) | exact .ptrK (Nat.le_of_ble_eq_true rfl) | exact rs_pur (by simp) rfl)⟩, ⟨_, rfl, (by first | exact .sloK (Nat.le_of_ble_eq_true rfl) | exact .ptrK (Nat.le_of_ble_eq_true rfl) | exact rs_pur (by simp) rfl)⟩, ⟨_, rfl, (rs_pur (by simp) (by rw [hasB_succ (by omega)]; simp [*]))⟩, ⟨_, rfl, (by first | exact .sloK (Nat.le_of_ble_eq_true rfl) | exact .ptrK (Nat.le_of_ble_eq_true rfl) | exact rs_pur (by simp) rfl)⟩, ⟨_, rfl, (by first | exact .sloK (Nat.le_of_ble_eq_true rfl) | exact .ptrK (Nat.le_of_ble_eq_true rfl) | exact rs_pur (by simp) rfl)⟩, ⟨_, rfl, (by first | exact .sloK (Nat.le_of_ble_eq_true rfl) | exact .ptrK (Nat.le_of_ble_eq_true rfl) | exact rs_pur (by simp) rfl)⟩, trivial⟩ ⟨ors_var ⟨rs_pur (by simp) rfl, rs_pur (by simp) rfl, rs_pur (by simp) rfl, rs_pur (by simp) rfl, trivial⟩, ors_var ⟨rs_pur (by simp [nilS]) rfl, rs_pur (by simp [nilS]) rfl, rs_pur (by simp [nilS]) rfl, rs_pur (by simp) rfl, trivial⟩, ors_var ⟨rs_pur (by simp) rfl, rs_pur (by simp) rfl, rs_pur (by simp) rfl, rs_pur (by simp) rfl, rs_pur (by simp) rfl, trivial⟩, trivial⟩ ?_
      refine w_reg (l := r4_8.toList) rfl r4_8_ok ?_
      refine a_op rfl (o_add rfl rfl (by simp only [klo, khi]; omega)) ?_
      refine a_op rfl (o_mv rfl) ?_
      refine a_nil ?_
      refine tq_n ?_
      exact ⟨kA + 1, ⟨by omega, by omega⟩, ⟨(by first | exact sub_int rfl (by omega) | rfl | exact sub_eq rfl (by rw [hLA]) | exact sub_eq rfl (by simp)), (by first | exact sub_int rfl (by omega) | rfl | exact sub_eq rfl (by rw [hLA]) | exact sub_eq rfl (by simp)), (by first | exact sub_int rfl (by omega) | rfl | exact sub_eq rfl (by rw [hLA]) | exact sub_eq rfl (by simp)), (by first | exact sub_int rfl (by omega) | rfl | exact sub_eq rfl (by rw [hLA]) | exact sub_eq rfl (by simp)), (by first | exact sub_int rfl (by omega) | rfl | exact sub_eq rfl (by rw [hLA]) | exact sub_eq rfl (by simp)), (by first | exact sub_int rfl (by omega) | rfl | exact sub_eq rfl (by rw [hLA]) | exact sub_eq rfl (by simp)), (by first | exact sub_int rfl (by omega) | rfl | exact sub_eq rfl (by rw [hLA]) | exact sub_eq rfl (by simp)), (by first | exact sub_int rfl (by omega) | rfl | exact sub_eq rfl (by rw [hLA]) | exact sub_eq rfl (by simp)), (by first | exact sub_int rfl (by omega) | rfl | exact sub_eq rfl (by rw [hLA]) | exact sub_eq rfl (by simp)), trivial⟩, rfl⟩
    refine a_op rfl (o_mv rfl) ?_
    refine a_op rfl ((by first | exact o_fa tf37_0 rfl rfl | exact o_fap tf37_0 rfl rfl)) ?_
    refine a_op rfl ((by first | exact o_ld tg3 rfl rfl | exact o_ldp tg3 rfl rfl rfl rfl)) ?_
    refine a_op rfl ((by first | exact o_fa tf37_0 rfl rfl | exact o_fap tf37_0 rfl rfl)) ?_
    refine a_op rfl ((by first | exact o_ld tg3 rfl rfl | exact o_ldp tg3 rfl rfl rfl rfl)) ?_
    refine a_if rfl (o_eq rfl rfl) (fun h5 => ?_) (fun h6 => ?_)
    · refine a_op rfl (o_mv rfl) ?_
      refine a_op rfl ((by first | exact o_fa tf37_1 rfl rfl | exact o_fap tf37_1 rfl rfl)) ?_
      refine a_op rfl ((by first | exact o_ld tg5 rfl rfl | exact o_ldp tg5 rfl rfl rfl rfl)) ?_
      refine a_op rfl ((by first | exact o_fa tf37_1 rfl rfl | exact o_fap tf37_1 rfl rfl)) ?_
      refine a_op rfl ((by first | exact o_ld tg5 rfl rfl | exact o_ldp tg5 rfl rfl rfl rfl)) ?_
      refine a_op rfl (o_eq rfl rfl) ?_
      refine a_op rfl (o_pkt rfl rfl) ?_
      refine a_op rfl (o_pkf rfl rfl) ?_
      refine a_ifb rfl (o_as rfl) (fun h7 => ?_) (fun h8 => ?_)
      · refine a_nil ?_
        refine bq_n ?_
        refine tq_n ?_
        refine w_view [(9, .ptr 1 0), (10, .sl 5 false ((rulesF l).map ruleAV)), (11, .sl 1 false ((offF fl).map intAV)), (12, .raw (.int .i64 (day % 2001))), (13, .ptr 2 0), (14, .raw (.bool (hasB (ruledF x) (rulesF l) (kA + 1)))), (35, .sl 5 false ((rulesF l).map ruleAV)), (36, .raw (.int .i64 (((rulesF l).length : Nat) : Int))), (37, .raw (.int .i64 ((kA : Nat) : Int)))] ([.var (noteAV x).cells, .var [nilS, nilS, nilS, .sl 8 false ((sixL 6).map ptAV)], .var (ruleAV (ruledF x)).cells]) 3 rfl (Nat.le_of_ble_eq_true rfl) (Nat.le_of_ble_eq_true rfl) ⟨⟨_, rfl, (by first | exact .sloK (Nat.le_of_ble_eq_true rfl) | exact .ptrK (Nat.le_of_ble_eq_true rfl) | exact rs_pur (by simp) rfl)⟩, ⟨_, rfl, (by first | exact .sloK (Nat.le_of_ble_eq_true rfl) | exact .ptrK (Nat.le_of_ble_eq_true rfl) | exact rs_pur (by simp) rfl)⟩, ⟨_, rfl, (by first | exact .sloK (Nat.le_of_ble_eq_true rfl) | exact .ptrK (Nat.le_of_ble_eq_true rfl) | exact rs_pur (by simp) rfl)⟩, ⟨_, rfl, (by first | exact .sloK (Nat.le_of_ble_eq_true rfl) | exact .ptrK (Nat.le_of_ble_eq_true rfl) | exact rs_pur (by simp) rfl)⟩, ⟨_, rfl, (by first | exact .sloK (Nat.le_of_ble_eq_true rfl) | exact .ptrK (Nat.le_of_ble_eq_true rfl) | exact rs_pur (by simp) rfl)⟩, ⟨_, rfl, (rs_pur (by simp) (by rw [hasB_succ (by omega)]; simp [*]))⟩, ⟨_, rfl, (by first | exact .sloK (Nat.le_of_ble_eq_true rfl) | exact .ptrK (Nat.le_of_ble_eq_true rfl) | exact rs_pur (by simp) rfl)⟩, ⟨_, rfl, (by first | exact .sloK (Nat.le_of_ble_eq_true rfl) | exact .ptrK (Nat.le_of_ble_eq_true rfl) | exact rs_pur (by simp) rfl)⟩, ⟨_, rfl, (by first | exact .sloK (Nat.le_of_ble_eq_true rfl) | exact .ptrK (Nat.le_of_ble_eq_true rfl) | exact rs_pur (by simp) rfl)⟩, trivial⟩ ⟨ors_var ⟨rs_pur (by simp) rfl, rs_pur (by simp) rfl, rs_pur (by simp) rfl, rs_pur (by simp) rfl, trivial⟩, ors_var ⟨rs_pur (by simp [nilS]) rfl, rs_pur (by simp [nilS]) rfl, rs_pur (by simp [nilS]) rfl, rs_pur (by simp) rfl, trivial⟩, ors_var ⟨rs_pur (by simp) rfl, rs_pur (by simp) rfl, rs_pur (by simp) rfl, rs_pur (by simp) rfl, rs_pur (by simp) rfl, trivial⟩, trivial⟩ ?_
        refine w_reg (l := r4_8.toList) rfl r4_8_ok ?_
        refine a_op rfl (o_add rfl rfl (by simp only [klo, khi]; omega)) ?_
        refine a_op rfl (o_mv rfl) ?_
        refine a_nil ?_
        refine tq_n ?_
        exact ⟨kA + 1, ⟨by omega, by omega⟩, ⟨(by first | exact sub_int rfl (by omega) | rfl | exact sub_eq rfl (by rw [hLA]) | exact sub_eq rfl (by simp)), (by first | exact sub_int rfl (by omega) | rfl | exact sub_eq rfl (by rw [hLA]) | exact sub_eq rfl (by simp)), (by first | exact sub_int rfl (by omega) | rfl | exact sub_eq rfl (by rw [hLA]) | exact sub_eq rfl (by simp)), (by first | exact sub_int rfl (by omega) | rfl | exact sub_eq rfl (by rw [hLA]) | exact sub_eq rfl (by simp)), (by first | exact sub_int rfl (by omega) | rfl | exact sub_eq rfl (by rw [hLA]) | exact sub_eq rfl (by simp)), (by first | exact sub_int rfl (by omega) | rfl | exact sub_eq rfl (by rw [hLA]) | exact sub_eq rfl (by simp)), (by first | exact sub_int rfl (by omega) | rfl | exact sub_eq rfl (by rw [hLA]) | exact sub_eq rfl (by simp)), (by first | exact sub_int rfl (by omega) | rfl | exact sub_eq rfl (by rw [hLA]) | exact sub_eq rfl (by simp)), (by first | exact sub_int rfl (by omega) | rfl | exact sub_eq rfl (by rw [hLA]) | exact sub_eq rfl (by simp)), trivial⟩, rfl⟩
      refine a_nil ?_
      refine bq_n ?_
      refine tq_n ?_
      refine w_view [(9, .ptr 1 0), (10, .sl 5 false ((rulesF l).map ruleAV)), (11, .sl 1 false ((offF fl).map intAV)), (12, .raw (.int .i64 (day % 2001))), (13, .ptr 2 0), (14, .raw (.bool (hasB (ruledF x) (rulesF l) (kA + 1)))), (35, .sl 5 false ((rulesF l).map ruleAV)), (36, .raw (.int .i64 (((rulesF l).length : Nat) : Int))), (37, .raw (.int .i64 ((kA : Nat) : Int)))] ([.var (noteAV x).cells, .var [nilS, nilS, nilS, .sl 8 false ((sixL 6).map ptAV)], .var (ruleAV (ruledF x)).cells]) 3 rfl (Nat.le_of_ble_eq_true rfl) (Nat.le_of_ble_eq_true rfl) ⟨⟨_, rfl, (by first | exact .sloK (Nat.le_of_ble_eq_true rfl) | exact .ptrK (Nat.le_of_ble_eq_true rfl) | exact rs_pur (by simp) rfl)⟩, ⟨_, rfl, (by first | exact .sloK (Nat.le_of_ble_eq_true rfl) | exact .ptrK (Nat.le_of_ble_eq_true rfl) | exact rs_pur (by simp) rfl)⟩, ⟨_, rfl, (by first | exact .sloK (Nat.le_of_ble_eq_true rfl) | exact .ptrK (Nat.le_of_ble_eq_true rfl) | exact rs_pur (by simp) rfl)⟩, ⟨_, rfl, (by first | exact .sloK (Nat.le_of_ble_eq_true rfl) | exact .ptrK (Nat.le_of_ble_eq_true rfl) | exact rs_pur (by simp) rfl)⟩, ⟨_, rfl, (by first | exact .sloK (Nat.le_of_ble_eq_true rfl) | exact .ptrK (Nat.le_of_ble_eq_true rfl) | exact rs_pur (by simp) rfl)⟩, ⟨_, rfl, (rs_pur (by simp) (by rw [hasB_succ (by omega)]; simp [*]))⟩, ⟨_, rfl, (by first | exact .sloK (Nat.le_of_ble_eq_true rfl) | exact .ptrK (Nat.le_of_ble_eq_true rfl) | exact rs_pur (by simp) rfl)⟩, ⟨_, rfl, (by first | exact .sloK (Nat.le_of_ble_eq_true rfl) | exact .ptrK (Nat.le_of_ble_eq_true rfl) | exact rs_pur (by simp) rfl)⟩, ⟨_, rfl, (by first | exact .sloK (Nat.le_of_ble_eq_true rfl) | exact .ptrK (Nat.le_of_ble_eq_true rfl) | exact rs_pur (by simp) rfl)⟩, trivial⟩ ⟨ors_var ⟨rs_pur (by simp) rfl, rs_pur (by simp) rfl, rs_pur (by simp) rfl, rs_pur (by simp) rfl, trivial⟩, ors_var ⟨rs_pur (by simp [nilS]) rfl, rs_pur (by simp [nilS]) rfl, rs_pur (by simp [nilS]) rfl, rs_pur (by simp) rfl, trivial⟩, ors_var ⟨rs_pur (by simp) rfl, rs_pur (by simp) rfl, rs_pur (by simp) rfl, rs_pur (by simp) rfl, rs_pur (by simp) rfl, trivial⟩, trivial⟩ ?_
      refine w_reg (l := r4_8.toList) rfl r4_8_ok ?_
      refine a_op rfl (o_add rfl rfl (by simp only [klo, khi]; omega)) ?_
      refine a_op rfl (o_mv rfl) ?_
      refine a_nil ?_
      refine tq_n ?_
      exact ⟨kA + 1, ⟨by omega, by omega⟩, ⟨(by first | exact sub_int rfl (by omega) | rfl | exact sub_eq rfl (by rw [hLA]) | exact sub_eq rfl (by simp)), (by first | exact sub_int rfl (by omega) | rfl | exact sub_eq rfl (by rw [hLA]) | exact sub_eq rfl (by simp)), (by first | exact sub_int rfl (by omega) | rfl | exact sub_eq rfl (by rw [hLA]) | exact sub_eq rfl (by simp)), (by first | exact sub_int rfl (by omega) | rfl | exact sub_eq rfl (by rw [hLA]) | exact sub_eq rfl (by simp)), (by first | exact sub_int rfl (by omega) | rfl | exact sub_eq rfl (by rw [hLA]) | exact sub_eq rfl (by simp)), (by first | exact sub_int rfl (by omega) | rfl | exact sub_eq rfl (by rw [hLA]) | exact sub_eq rfl (by simp)), (by first | exact sub_int rfl (by omega) | rfl | exact sub_eq rfl (by rw [hLA]) | exact sub_eq rfl (by simp)), (by first | exact sub_int rfl (by omega) | rfl | exact sub_eq rfl (by rw [hLA]) | exact sub_eq rfl (by simp)), (by first | exact sub_int rfl (by omega) | rfl | exact sub_eq rfl (by rw [hLA]) | exact sub_eq rfl (by simp)), trivial⟩, rfl⟩
    refine a_op rfl (o_mv rfl) ?_
    refine a_off rfl ?_
    refine a_off rfl ?_
    refine a_off rfl ?_
    refine a_off rfl ?_
    refine a_off rfl ?_
    refine a_op rfl (o_pkf rfl rfl) ?_
    refine a_op rfl (o_pkf rfl rfl) ?_
    refine a_op rfl (o_as rfl) ?_
    refine a_nil ?_
    refine bq_n ?_
    refine tq_n ?_
    refine w_view [(9, .ptr 1 0), (10, .sl 5 false ((rulesF l).map ruleAV)), (11, .sl 1 false ((offF fl).map intAV)), (12, .raw (.int .i64 (day % 2001))), (13, .ptr 2 0), (14, .raw (.bool (hasB (ruledF x) (rulesF l) (kA + 1)))), (35, .sl 5 false ((rulesF l).map ruleAV)), (36, .raw (.int .i64 (((rulesF l).length : Nat) : Int))), (37, .raw (.int .i64 ((kA : Nat) : Int)))] ([.var (noteAV x).cells, .var [nilS, nilS, nilS, .sl 8 false ((sixL 6).map ptAV)], .var (ruleAV (ruledF x)).cells]) 3 rfl (Nat.le_of_ble_eq_true rfl) (Nat.le_of_ble_eq_true rfl) ⟨⟨_, rfl, (by first | exact .sloK (Nat.le_of_ble_eq_true rfl) | exact .ptrK (Nat.le_of_ble_eq_true rfl) | exact rs_pur (by simp) rfl)⟩, ⟨_, rfl, (by first | exact .sloK (Nat.le_of_ble_eq_true rfl) | exact .ptrK (Nat.le_of_ble_eq_true rfl) | exact rs_pur (by simp) rfl)⟩, ⟨_, rfl, (by first | exact .sloK (Nat.le_of_ble_eq_true rfl) | exact .ptrK (Nat.le_of_ble_eq_true rfl) | exact rs_pur (by simp) rfl)⟩, ⟨_, rfl, (by first | exact .sloK (Nat.le_of_ble_eq_true rfl) | exact .ptrK (Nat.le_of_ble_eq_true rfl) | exact rs_pur (by simp) rfl)⟩, ⟨_, rfl, (by first | exact .sloK (Nat.le_of_ble_eq_true rfl) | exact .ptrK (Nat.le_of_ble_eq_true rfl) | exact rs_pur (by simp) rfl)⟩, ⟨_, rfl, (rs_pur (by simp) (by rw [hasB_succ (by omega)]; simp [*]))⟩, ⟨_, rfl, (by first | exact .sloK (Nat.le_of_ble_eq_true rfl) | exact .ptrK (Nat.le_of_ble_eq_true rfl) | exact rs_pur (by simp) rfl)⟩, ⟨_, rfl, (by first | exact .sloK (Nat.le_of_ble_eq_true rfl) | exact .ptrK (Nat.le_of_ble_eq_true rfl) | exact rs_pur (by simp) rfl)⟩, ⟨_, rfl, (by first | exact .sloK (Nat.le_of_ble_eq_true rfl) | exact .ptrK (Nat.le_of_ble_eq_true rfl) | exact rs_pur (by simp) rfl)⟩, trivial⟩ ⟨ors_var ⟨rs_pur (by simp) rfl, rs_pur (by simp) rfl, rs_pur (by simp) rfl, rs_pur (by simp) rfl, trivial⟩, ors_var ⟨rs_pur (by simp [nilS]) rfl, rs_pur (by simp [nilS]) rfl, rs_pur (by simp [nilS]) rfl, rs_pur (by simp) rfl, trivial⟩, ors_var ⟨rs_pur (by simp) rfl, rs_pur (by simp) rfl, rs_pur (by simp) rfl, rs_pur (by simp) rfl, rs_pur (by simp) rfl, trivial⟩, trivial⟩ ?_
    refine w_reg (l := r4_8.toList) rfl r4_8_ok ?_
    refine a_op rfl (o_add rfl rfl (by simp only [klo, khi]; omega)) ?_
    refine a_op rfl (o_mv rfl) ?_
    refine a_nil ?_
    refine tq_n ?_
    exact ⟨kA + 1, ⟨by omega, by omega⟩, ⟨(by first | exact sub_int rfl (by omega) | rfl | exact sub_eq rfl (by rw [hLA]) | exact sub_eq rfl (by simp)), (by first | exact sub_int rfl (by omega) | rfl | exact sub_eq rfl (by rw [hLA]) | exact sub_eq rfl (by simp)), (by first | exact sub_int rfl (by omega) | rfl | exact sub_eq rfl (by rw [hLA]) | exact sub_eq rfl (by simp)), (by first | exact sub_int rfl (by omega) | rfl | exact sub_eq rfl (by rw [hLA]) | exact sub_eq rfl (by simp)), (by first | exact sub_int rfl (by omega) | rfl | exact sub_eq rfl (by rw [hLA]) | exact sub_eq rfl (by simp)), (by first | exact sub_int rfl (by omega) | rfl | exact sub_eq rfl (by rw [hLA]) | exact sub_eq rfl (by simp)), (by first | exact sub_int rfl (by omega) | rfl | exact sub_eq rfl (by rw [hLA]) | exact sub_eq rfl (by simp)), (by first | exact sub_int rfl (by omega) | rfl | exact sub_eq rfl (by rw [hLA]) | exact sub_eq rfl (by simp)), (by first | exact sub_int rfl (by omega) | rfl | exact sub_eq rfl (by rw [hLA]) | exact sub_eq rfl (by simp)), trivial⟩, rfl⟩
  refine a_nil ?_
  refine tq_n ?_
  refine awp_seq ?_
  refine w_false rfl ?_
  refine awp_exit ?_
  refine tq_x ?_
  refine tq_x ?_
  refine bq_hit ?_
  refine tq_n ?_
  refine awp_seq ?_
  have hkA : kA = (rulesF l).length := by omega
  subst hkA
  refine w_ph 5 (by decide) rfl ?_
  refine awp_draw ⟨[[], [], [0, 1], [], [3], [0, 1, 2, 3, 4], [0, 1, 2, 3, 4, 5]], [[], [10], [57, 58], [13], [60], [59, 61], [62]], [[3], [], [3], [2], [], [3], []], [some 3, none, some 3, none, none, some 3, none]⟩ mo r4_9_ok (by decide +kernel) (l := r4_9.toList) rfl ?_
  refine d_w rfl rfl rfl (fun _ => o_bsD tE32 (by decide) rfl rfl rfl rfl) rfl rfl rfl ?_
  refine d_op rfl rfl rfl (fun _ => o_mv rfl) ?_
  refine d_w rfl rfl rfl (fun _ => o_apD tE32 rfl rfl rfl rfl rfl (good_rules _ _) (by simp; omega) (by simp; omega) rfl rfl rfl) rfl rfl rfl ?_
  refine d_op rfl rfl rfl (fun _ => (by first | exact o_ldg tg37 tn37 rfl rfl | exact o_ldpg tg37 tn37 rfl rfl rfl rfl)) ?_
  refine d_op rfl rfl rfl (fun _ => o_bs tE32 (by decide) rfl rfl rfl) ?_
  refine d_w rfl rfl rfl (fun _ => o_apD tE32 rfl rfl (by simp) rfl rfl rfl (by simp; omega) (by simp; omega) rfl rfl rfl) rfl rfl rfl ?_
  refine d_op rfl rfl rfl (fun _ => o_as rfl) ?_
  refine d_nil ?_
  refine tq_n ?_
  refine awp_seq ?_
  refine w_reg (l := r4_10.toList) rfl r4_10_ok ?_
  refine a_op rfl (o_bso tE34 (by decide) rfl rfl rfl rfl rfl) ?_
  refine a_op rfl (o_mv rfl) ?_
  refine a_op rfl (o_ap tE34 rfl rfl rfl rfl rfl (good_ints _ _) (by simp; omega) (by simp; omega) rfl rfl rfl rfl) ?_
  refine a_op rfl (o_mv rfl) ?_
  refine a_op rfl (o_bs tE34 (by decide) rfl rfl rfl) ?_
  refine a_op rfl (o_ap tE34 rfl rfl (by simp) rfl rfl rfl (by simp; omega) (by simp; omega) rfl rfl rfl rfl) ?_
  refine a_op rfl (o_as rfl) ?_
  refine a_nil ?_
  refine tq_n ?_
  refine w_join (fun s : List Int × Nat => SmOk (offF fl) (day % 2001) s.1) (fun s => [(9, .ptr 1 0), (10, .sl 5 false ((rulesF l).map ruleAV)), (11, .sl 1 false ((offF fl).map intAV)), (12, .raw (.int .i64 (day % 2001))), (13, .ptr 2 0), (14, .raw (.bool (hasB (ruledF x) (rulesF l) (rulesF l).length))), (17, .slo 3 3 0 ((rulesF l).length + 1)), (18, .slo 4 s.2 0 s.1.length)]) (fun s => [.var (noteAV x).cells, .var [nilS, nilS, nilS, .sl 8 false ((sixL 6).map ptAV)], .var (ruleAV (ruledF x)).cells, .vec 5 3 (((rulesF l) ++ [(ruledF x)]).map ruleAV), .vec 1 s.2 (s.1.map intAV)]) ?_ ?_
  · refine awp_seq ?_
    skip
    refine w_reg (l := r4_11.toList) rfl r4_11_ok ?_
    refine a_op rfl (o_mv rfl) ?_
    refine a_op rfl (o_len (j := (offF fl).length + 1) rfl rfl (by simp) tl34) ?_
    refine a_op rfl (o_sub rfl rfl (by simp only [klo, khi]; omega)) ?_
    refine a_op rfl (o_as rfl) ?_
    refine a_nil ?_
    refine tq_n ?_
    refine awp_block ?_
    refine w_loop (fun i : Nat => i ≤ (offF fl).length ∧ ∀ y ∈ (offF fl).drop i, (day % 2001) < y) (fun i => [(9, .ptr 1 0), (10, .sl 5 false ((rulesF l).map ruleAV)), (11, .sl 1 false ((offF fl).map intAV)), (12, .raw (.int .i64 (day % 2001))), (13, .ptr 2 0), (14, .raw (.bool (hasB (ruledF x) (rulesF l) (rulesF l).length))), (17, .slo 3 3 0 ((rulesF l).length + 1)), (18, .slo 4 2 0 ((offF fl).length + 1)), (19, .raw (.int .i64 ((i : Nat) : Int)))]) (fun i => [.var (noteAV x).cells, .var [nilS, nilS, nilS, .sl 8 false ((sixL 6).map ptAV)], .var (ruleAV (ruledF x)).cells, .vec 5 3 (((rulesF l) ++ [(ruledF x)]).map ruleAV), .vec 1 2 ((insL (offF fl) (day % 2001) (i)).map intAV)]) (fun i => i) ((offF fl).length) ⟨by omega, by simp⟩ ⟨(by first | exact sub_int rfl (by omega) | rfl | exact sub_eq rfl (by rw [hLA]) | exact sub_eq rfl (by simp)), (by first | exact sub_int rfl (by omega) | rfl | exact sub_eq rfl (by rw [hLA]) | exact sub_eq rfl (by simp)), (by first | exact sub_int rfl (by omega) | rfl | exact sub_eq rfl (by rw [hLA]) | exact sub_eq rfl (by simp)), (by first | exact sub_int rfl (by omega) | rfl | exact sub_eq rfl (by rw [hLA]) | exact sub_eq rfl (by simp)), (by first | exact sub_int rfl (by omega) | rfl | exact sub_eq rfl (by rw [hLA]) | exact sub_eq rfl (by simp)), (by first | exact sub_int rfl (by omega) | rfl | exact sub_eq rfl (by rw [hLA]) | exact sub_eq rfl (by simp)), (by first | exact sub_int rfl (by omega) | rfl | exact sub_eq rfl (by rw [hLA]) | exact sub_eq rfl (by simp)), (by first | exact sub_int rfl (by omega) | rfl | exact sub_eq rfl (by rw [hLA]) | exact sub_eq rfl (by simp)), (by first | exact sub_int rfl (by omega) | rfl | exact sub_eq rfl (by rw [hLA]) | exact sub_eq rfl (by simp)), trivial⟩ (by rw [insL_end]; simp [intAV]; rfl) ?_
    intro iA hpi
    unfold b4_1
    refine awp_seq ?_
    refine awp_seq ?_
    refine awp_draw ⟨[[], [0], [0, 1], [0, 1, 2], [0, 1, 2], [0, 1, 2, 4], [0, 1, 2, 3, 4, 5], [0, 1, 2, 3, 4, 5, 6], [0, 1, 2], [0, 1, 2], [0, 1, 2, 8, 9], [0, 1, 2, 8, 9, 10], [0, 1, 2, 3, 4, 5, 6, 7, 8, 9, 10, 11], [0, 1, 2, 3, 4, 5, 6, 7, 8, 9, 10, 11, 12]], [[19], [72], [73], [18, 74], [19, 74], [74, 76], [74, 75, 77], [74, 78], [18, 74], [19, 74], [74, 80, 81], [74, 82], [74, 79, 83], [74, 84]], [[], [], [], [], [], [], [4], [4], [], [], [4], [4], [], []], [none, none, none, none, none, none, none, none, none, none, none, none, none, none]⟩ mo r4_12_ok (by decide +kernel) (l := r4_12.toList) rfl ?_
    refine d_op rfl rfl rfl (fun _ => o_mv rfl) ?_
    refine d_if rfl rfl rfl (fun _ => o_gt rfl rfl) (fun h9 => ?_) (fun h10 => ?_)
    · have hi1 : 0 < iA := by omega
      have hm1 : ((iA : Nat) : Int) - 1 = ((iA - 1 : Nat) : Int) := by omega
      have hE0 : ((insL (offF fl) (day % 2001) (iA)).map intAV)[0 + iA]? = some (intAV (day % 2001)) := by rw [Nat.zero_add]; exact insL_at hpi.1
      have hE1 : ((insL (offF fl) (day % 2001) (iA)).map intAV)[0 + (iA - 1)]? = some (intAV ((offF fl)[iA - 1]'(by omega))) := by rw [Nat.zero_add]; exact insL_pred hi1 hpi.1
      have hj0 : iA < (offF fl).length + 1 := by omega
      have hj1 : iA - 1 < (offF fl).length + 1 := by omega
      refine d_op rfl rfl rfl (fun _ => o_mv rfl) ?_
      refine d_op rfl rfl rfl (fun _ => o_mv rfl) ?_
      refine d_op rfl rfl rfl (fun _ => o_mv rfl) ?_
      refine d_op rfl rfl rfl (fun _ => o_sub rfl rfl (by simp only [klo, khi]; omega)) ?_
      refine d_op rfl rfl rfl (fun _ => o_ixo te34 tn3 rfl rfl rfl hm1 hj1) ?_
      refine d_op rfl rfl rfl (fun _ => o_ldp tg3 rfl rfl hE1 rfl) ?_
      refine d_op rfl rfl rfl (fun _ => o_mv rfl) ?_
      refine d_op rfl rfl rfl (fun _ => o_mv rfl) ?_
      refine d_op rfl rfl rfl (fun _ => o_ixo te34 tn3 rfl rfl rfl rfl hj0) ?_
      refine d_op rfl rfl rfl (fun _ => o_ldp tg3 rfl rfl hE0 rfl) ?_
      refine d_if rfl rfl rfl (fun _ => o_ge rfl rfl) (fun h11 => ?_) (fun h12 => ?_)
      · refine d_op rfl rfl rfl (fun _ => o_pkt rfl rfl) ?_
        refine d_nil ?_
        refine tq_n ?_
        refine w_true rfl ?_
        refine awp_skip ?_
        refine tq_n ?_
        refine awp_seq ?_
        refine awp_block ?_
        refine awp_seq ?_
        refine awp_seq ?_
        refine awp_draw ⟨[[], [], [1], [0, 1, 2], [0, 1, 2, 3], [], [], [5, 6], [5, 6, 7], [0, 1, 2, 3, 4, 5, 6, 7, 8]], [[18], [19], [89], [88, 90], [91], [18], [19], [93, 94], [95], [92, 96]], [[], [], [], [4], [4], [], [], [4], [4], []], [none, none, none, none, none, none, none, none, none, none]⟩ mo r4_14_ok (by decide +kernel) (l := r4_14.toList) rfl ?_
        refine d_op rfl rfl rfl (fun _ => o_mv rfl) ?_
        refine d_op rfl rfl rfl (fun _ => o_mv rfl) ?_
        refine d_op rfl rfl rfl (fun _ => o_sub rfl rfl (by simp only [klo, khi]; omega)) ?_
        refine d_op rfl rfl rfl (fun _ => o_ixo te34 tn3 rfl rfl rfl hm1 hj1) ?_
        refine d_op rfl rfl rfl (fun _ => o_ldp tg3 rfl rfl hE1 rfl) ?_
        refine d_op rfl rfl rfl (fun _ => o_mv rfl) ?_
        refine d_op rfl rfl rfl (fun _ => o_mv rfl) ?_
        refine d_op rfl rfl rfl (fun _ => o_ixo te34 tn3 rfl rfl rfl rfl hj0) ?_
        refine d_op rfl rfl rfl (fun _ => o_ldp tg3 rfl rfl hE0 rfl) ?_
        refine d_if rfl rfl rfl (fun _ => o_eq rfl rfl) (fun h13 => ?_) (fun h14 => ?_)
        · refine d_nil ?_
          refine tq_n ?_
          refine w_true rfl ?_
          refine awp_seq ?_
          have hL0 : iA ≤ ((insL (offF fl) (day % 2001) (iA)).map intAV).length := by simp [insL_len _ _ hpi.1]; omega
          have hL1 : ((iA : Nat) : Int) + 1 = ((iA + 1 : Nat) : Int) := by omega
          have hL2 : iA + 1 ≤ (offF fl).length + 1 := by omega
          have hL4 : (offF fl).length + 1 = ((insL (offF fl) (day % 2001) (iA)).map intAV).length := by simp [insL_len _ _ hpi.1]
          have hL3 : (offF fl).length + 1 ≤ ((insL (offF fl) (day % 2001) (iA)).map intAV).length := by omega
          have hG : ∀ H, (((insL (offF fl) (day % 2001) (iA)).map intAV).drop (iA + 1)).all (AV.goodPart H) = true := fun H => good_drop _ (good_ints _ _)
          have hB : iA + (((insL (offF fl) (day % 2001) (iA)).map intAV).drop (iA + 1)).length ≤ ((insL (offF fl) (day % 2001) (iA)).map intAV).length := by simp [insL_len _ _ hpi.1]; omega
          refine awp_draw ⟨[[], [], [0, 1], [], [], [4], [3, 4, 5], [0, 1, 2, 3, 4, 5, 6], [0, 1, 2, 3, 4, 5, 6, 7]], [[18], [19], [98, 99], [18], [19], [102], [101, 103], [100, 104], [105]], [[], [], [4], [], [], [], [4], [4, 4], []], [none, none, none, none, none, none, none, some 4, none]⟩ mo r4_15_ok (by decide +kernel) (l := r4_15.toList) rfl ?_
          refine d_op rfl rfl rfl (fun _ => o_mv rfl) ?_
          refine d_op rfl rfl rfl (fun _ => o_mv rfl) ?_
          refine d_op rfl rfl rfl (fun _ => o_slh te34 tn3 rfl rfl rfl rfl hL0) ?_
          refine d_op rfl rfl rfl (fun _ => o_mv rfl) ?_
          refine d_op rfl rfl rfl (fun _ => o_mv rfl) ?_
          refine d_op rfl rfl rfl (fun _ => o_add rfl rfl (by simp only [klo, khi]; omega)) ?_
          refine d_op rfl rfl rfl (fun _ => o_slt te34 tn3 (by decide) rfl rfl rfl hL1 hL2 hL3) ?_
          refine d_w rfl rfl rfl (fun _ => o_apcD tE34 rfl rfl rfl (srcTail rfl hL4 hL2 rfl) (hG _) hB rfl rfl rfl) rfl rfl rfl ?_
          refine d_op rfl rfl rfl (fun _ => o_as rfl) ?_
          refine d_nil ?_
          refine tq_n ?_
          refine awp_exit ?_
          refine tq_x ?_
          refine bq_miss rfl ?_
          refine tq_x ?_
          refine tq_x ?_
          refine bq_hit ?_
          refine tq_n ?_
          have hLA : iA + (((insL (offF fl) (day % 2001) (iA)).map intAV).drop (iA + 1)).length = (offF fl).length := by simp [insL_len _ _ hpi.1]; omega
          exact ⟨((offF fl), 3), sm_same hHp (by rw [← (by assumption : (offF fl)[iA - 1]'(by omega) = (day % 2001))]; exact List.getElem_mem _), ⟨(by first | exact sub_int rfl (by omega) | rfl | exact sub_eq rfl (by rw [hLA]) | exact sub_eq rfl (by simp)), (by first | exact sub_int rfl (by omega) | rfl | exact sub_eq rfl (by rw [hLA]) | exact sub_eq rfl (by simp)), (by first | exact sub_int rfl (by omega) | rfl | exact sub_eq rfl (by rw [hLA]) | exact sub_eq rfl (by simp)), (by first | exact sub_int rfl (by omega) | rfl | exact sub_eq rfl (by rw [hLA]) | exact sub_eq rfl (by simp)), (by first | exact sub_int rfl (by omega) | rfl | exact sub_eq rfl (by rw [hLA]) | exact sub_eq rfl (by simp)), (by first | exact sub_int rfl (by omega) | rfl | exact sub_eq rfl (by rw [hLA]) | exact sub_eq rfl (by simp)), (by first | exact sub_int rfl (by omega) | rfl | exact sub_eq rfl (by rw [hLA]) | exact sub_eq rfl (by simp)), (by first | exact sub_int rfl (by omega) | rfl | exact sub_eq rfl (by rw [hLA]) | exact sub_eq rfl (by simp)), trivial⟩, by rw [insL_cut hpi.1]⟩
        refine d_nil ?_
        refine tq_n ?_
        refine w_false rfl ?_
        refine awp_skip ?_
        refine tq_n ?_
        have hE2 : ∀ a, (((insL (offF fl) (day % 2001) (iA)).map intAV).set (0 + (iA - 1)) a)[0 + iA]? = some (intAV (day % 2001)) := by intro a; rw [List.getElem?_set_ne (by omega), Nat.zero_add]; exact insL_at hpi.1
        refine awp_draw ⟨[[], [], [1], [], [], [], [], [5, 6], [5, 6, 7], [], [], [10], [9, 10, 11], [9, 10, 11, 12], [0, 1, 2, 5, 6, 7, 8, 9, 10, 11, 12, 13], [0, 1, 2, 5, 6, 7, 8, 9, 10, 11, 12, 13, 14], [0, 1, 2, 3, 4, 5, 6, 7, 8, 9, 10, 11, 12, 13, 14, 15], [0, 1, 2, 3, 4, 5, 6, 7, 8, 9, 10, 11, 12, 13, 14, 15, 16]], [[18], [19], [107], [18], [19], [18], [19], [111, 112], [113], [18], [19], [116], [115, 117], [118], [106, 108], [114, 120], [109, 110], [119, 121]], [[], [], [], [], [], [], [], [4], [4], [], [], [], [4], [4], [4], [4], [4], [4]], [none, none, none, none, none, none, none, none, none, none, none, none, none, none, none, some 4, none, some 4]⟩ mo r4_16_ok (by decide +kernel) (l := r4_16.toList) rfl ?_
        refine d_op rfl rfl rfl (fun _ => o_mv rfl) ?_
        refine d_op rfl rfl rfl (fun _ => o_mv rfl) ?_
        refine d_op rfl rfl rfl (fun _ => o_sub rfl rfl (by simp only [klo, khi]; omega)) ?_
        refine d_op rfl rfl rfl (fun _ => o_mv rfl) ?_
        refine d_op rfl rfl rfl (fun _ => o_mv rfl) ?_
        refine d_op rfl rfl rfl (fun _ => o_mv rfl) ?_
        refine d_op rfl rfl rfl (fun _ => o_mv rfl) ?_
        refine d_op rfl rfl rfl (fun _ => o_ixo te34 tn3 rfl rfl rfl rfl hj0) ?_
        refine d_op rfl rfl rfl (fun _ => o_ldp tg3 rfl rfl hE0 rfl) ?_
        refine d_op rfl rfl rfl (fun _ => o_mv rfl) ?_
        refine d_op rfl rfl rfl (fun _ => o_mv rfl) ?_
        refine d_op rfl rfl rfl (fun _ => o_sub rfl rfl (by simp only [klo, khi]; omega)) ?_
        refine d_op rfl rfl rfl (fun _ => o_ixo te34 tn3 rfl rfl rfl hm1 hj1) ?_
        refine d_op rfl rfl rfl (fun _ => o_ldp tg3 rfl rfl hE1 rfl) ?_
        refine d_op rfl rfl rfl (fun _ => o_ixo te34 tn3 rfl rfl rfl hm1 hj1) ?_
        refine d_w0 rfl rfl rfl (fun _ => o_stp (N := 0) tn3 rfl rfl rfl rfl rfl hE1 rfl (Nat.le_refl _)) rfl rfl rfl ?_
        refine d_op rfl rfl rfl (fun _ => o_ixo te34 tn3 rfl rfl rfl rfl hj0) ?_
        refine d_w0 rfl rfl rfl (fun _ => o_stp (N := 0) tn3 rfl rfl rfl rfl rfl (hE2 _) rfl (Nat.le_refl _)) rfl rfl rfl ?_
        refine d_nil ?_
        refine bq_n ?_
        refine tq_n ?_
        refine w_reg (l := r4_13.toList) rfl r4_13_ok ?_
        refine a_op rfl (o_mv rfl) ?_
        refine a_op rfl (o_sub rfl rfl (by simp only [klo, khi]; omega)) ?_
        refine a_op rfl (o_as rfl) ?_
        refine a_nil ?_
        refine tq_n ?_
        exact ⟨iA - 1, ⟨⟨by omega, drop_pred hi1 hpi.1 hpi.2 (by omega)⟩, by omega⟩, ⟨(by first | exact sub_int rfl (by omega) | rfl | exact sub_eq rfl (by rw [hLA]) | exact sub_eq rfl (by simp)), (by first | exact sub_int rfl (by omega) | rfl | exact sub_eq rfl (by rw [hLA]) | exact sub_eq rfl (by simp)), (by first | exact sub_int rfl (by omega) | rfl | exact sub_eq rfl (by rw [hLA]) | exact sub_eq rfl (by simp)), (by first | exact sub_int rfl (by omega) | rfl | exact sub_eq rfl (by rw [hLA]) | exact sub_eq rfl (by simp)), (by first | exact sub_int rfl (by omega) | rfl | exact sub_eq rfl (by rw [hLA]) | exact sub_eq rfl (by simp)), (by first | exact sub_int rfl (by omega) | rfl | exact sub_eq rfl (by rw [hLA]) | exact sub_eq rfl (by simp)), (by first | exact sub_int rfl (by omega) | rfl | exact sub_eq rfl (by rw [hLA]) | exact sub_eq rfl (by simp)), (by first | exact sub_int rfl (by omega) | rfl | exact sub_eq rfl (by rw [hLA]) | exact sub_eq rfl (by simp)), (by first | exact sub_int rfl (by omega) | rfl | exact sub_eq rfl (by rw [hLA]) | exact sub_eq rfl (by simp)), trivial⟩, by rw [← insL_swap hi1 hpi.1]; simp only [Nat.zero_add]; rfl⟩
      refine d_op rfl rfl rfl (fun _ => o_pkt rfl rfl) ?_
      refine d_nil ?_
      refine tq_n ?_
      refine w_false rfl ?_
      refine awp_exit ?_
      refine tq_x ?_
      refine tq_x ?_
      refine bq_hit ?_
      refine tq_n ?_
      have hLA := insL_len (offF fl) (day % 2001) hpi.1
      exact ⟨(insL (offF fl) (day % 2001) iA, 2), sm_ins hHp hpi.1 hpi.2 (sm_lo hHp hi1 hpi.1 (by omega)), ⟨(by first | exact sub_int rfl (by omega) | rfl | exact sub_eq rfl (by rw [hLA]) | exact sub_eq rfl (by simp)), (by first | exact sub_int rfl (by omega) | rfl | exact sub_eq rfl (by rw [hLA]) | exact sub_eq rfl (by simp)), (by first | exact sub_int rfl (by omega) | rfl | exact sub_eq rfl (by rw [hLA]) | exact sub_eq rfl (by simp)), (by first | exact sub_int rfl (by omega) | rfl | exact sub_eq rfl (by rw [hLA]) | exact sub_eq rfl (by simp)), (by first | exact sub_int rfl (by omega) | rfl | exact sub_eq rfl (by rw [hLA]) | exact sub_eq rfl (by simp)), (by first | exact sub_int rfl (by omega) | rfl | exact sub_eq rfl (by rw [hLA]) | exact sub_eq rfl (by simp)), (by first | exact sub_int rfl (by omega) | rfl | exact sub_eq rfl (by rw [hLA]) | exact sub_eq rfl (by simp)), (by first | exact sub_int rfl (by omega) | rfl | exact sub_eq rfl (by rw [hLA]) | exact sub_eq rfl (by simp)), trivial⟩, rfl⟩
    refine d_op rfl rfl rfl (fun _ => o_mv rfl) ?_
    refine d_off rfl rfl ?_
    refine d_off rfl rfl ?_
    refine d_off rfl rfl ?_
    refine d_off rfl rfl ?_
    refine d_off rfl rfl ?_
    refine d_off rfl rfl ?_
    refine d_off rfl rfl ?_
    refine d_off rfl rfl ?_
    refine d_off rfl rfl ?_
    refine d_off rfl rfl ?_
    refine d_op rfl rfl rfl (fun _ => o_pkf rfl rfl) ?_
    refine d_nil ?_
    refine tq_n ?_
    refine w_false rfl ?_
    refine awp_exit ?_
    refine tq_x ?_
    refine tq_x ?_
    refine bq_hit ?_
    refine tq_n ?_
    have hLA := insL_len (offF fl) (day % 2001) hpi.1
    exact ⟨(insL (offF fl) (day % 2001) iA, 2), sm_ins hHp hpi.1 hpi.2 (by obtain rfl : iA = 0 := (by omega); simp), ⟨(by first | exact sub_int rfl (by omega) | rfl | exact sub_eq rfl (by rw [hLA]) | exact sub_eq rfl (by simp)), (by first | exact sub_int rfl (by omega) | rfl | exact sub_eq rfl (by rw [hLA]) | exact sub_eq rfl (by simp)), (by first | exact sub_int rfl (by omega) | rfl | exact sub_eq rfl (by rw [hLA]) | exact sub_eq rfl (by simp)), (by first | exact sub_int rfl (by omega) | rfl | exact sub_eq rfl (by rw [hLA]) | exact sub_eq rfl (by simp)), (by first | exact sub_int rfl (by omega) | rfl | exact sub_eq rfl (by rw [hLA]) | exact sub_eq rfl (by simp)), (by first | exact sub_int rfl (by omega) | rfl | exact sub_eq rfl (by rw [hLA]) | exact sub_eq rfl (by simp)), (by first | exact sub_int rfl (by omega) | rfl | exact sub_eq rfl (by rw [hLA]) | exact sub_eq rfl (by simp)), (by first | exact sub_int rfl (by omega) | rfl | exact sub_eq rfl (by rw [hLA]) | exact sub_eq rfl (by simp)), trivial⟩, rfl⟩
  intro ⟨sm, sv⟩ hsm
  dsimp only at hsm ⊢
  have hswr := sm_wr hsm (by omega) (by omega)
  have hsl := hsm.len
  refine awp_seq ?_
  refine awp_seq ?_
  refine w_reg (l := r4_17.toList) rfl r4_17_ok ?_
  refine a_op rfl ((by first | exact o_fa tf30_3 rfl rfl | exact o_fap tf30_3 rfl rfl)) ?_
  refine a_op rfl ((by first | exact o_ld tg28 rfl rfl | exact o_ldp tg28 rfl rfl rfl rfl)) ?_
  refine a_op rfl (o_len rfl rfl (by first | exact List.length_map .. | rfl) tl28) ?_
  refine a_op rfl (o_mv rfl) ?_
  refine a_nil ?_
  refine tq_n ?_
  refine awp_block ?_
  refine w_loop (fun i : Nat => i ≤ (sixL 6).length) (fun iC => [(9, .ptr 1 0), (10, .sl 5 false ((rulesF l).map ruleAV)), (11, .sl 1 false ((offF fl).map intAV)), (12, .raw (.int .i64 (day % 2001))), (13, .ptr 2 0), (14, .raw (.bool (hasB (ruledF x) (rulesF l) (rulesF l).length))), (17, .slo 3 3 0 ((rulesF l).length + 1)), (18, .slo 4 sv 0 sm.length), (123, .sl 8 false ((sixL 6).map ptAV)), (124, .raw (.int .i64 (((sixL 6).length : Nat) : Int))), (125, .raw (.int .i64 ((iC : Nat) : Int)))]) (fun _ => [.var (noteAV x).cells, .var [nilS, nilS, nilS, .sl 8 false ((sixL 6).map ptAV)], .var (ruleAV (ruledF x)).cells, .vec 5 3 (((rulesF l) ++ [(ruledF x)]).map ruleAV), .vec 1 sv (sm.map intAV)]) (fun i => (sixL 6).length - i) (0) (by omega) ⟨(by first | exact sub_int rfl (by omega) | rfl | exact sub_eq rfl (by rw [hLA]) | exact sub_eq rfl (by simp)), (by first | exact sub_int rfl (by omega) | rfl | exact sub_eq rfl (by rw [hLA]) | exact sub_eq rfl (by simp)), (by first | exact sub_int rfl (by omega) | rfl | exact sub_eq rfl (by rw [hLA]) | exact sub_eq rfl (by simp)), (by first | exact sub_int rfl (by omega) | rfl | exact sub_eq rfl (by rw [hLA]) | exact sub_eq rfl (by simp)), (by first | exact sub_int rfl (by omega) | rfl | exact sub_eq rfl (by rw [hLA]) | exact sub_eq rfl (by simp)), (by first | exact sub_int rfl (by omega) | rfl | exact sub_eq rfl (by rw [hLA]) | exact sub_eq rfl (by simp)), (by first | exact sub_int rfl (by omega) | rfl | exact sub_eq rfl (by rw [hLA]) | exact sub_eq rfl (by simp)), (by first | exact sub_int rfl (by omega) | rfl | exact sub_eq rfl (by rw [hLA]) | exact sub_eq rfl (by simp)), (by first | exact sub_int rfl (by omega) | rfl | exact sub_eq rfl (by rw [hLA]) | exact sub_eq rfl (by simp)), (by first | exact sub_int rfl (by omega) | rfl | exact sub_eq rfl (by rw [hLA]) | exact sub_eq rfl (by simp)), (by first | exact sub_int rfl (by omega) | rfl | exact sub_eq rfl (by rw [hLA]) | exact sub_eq rfl (by simp)), trivial⟩ rfl ?_
  intro iC hCp
  unfold b4_2
  refine awp_seq ?_
  refine w_reg (l := r4_18.toList) rfl r4_18_ok ?_
  refine a_if rfl (o_lt rfl rfl) (fun h15 => ?_) (fun h16 => ?_)
  · refine a_nil ?_
    refine tq_n ?_
    refine awp_seq ?_
    refine w_true rfl ?_
    refine awp_skip ?_
    refine tq_n ?_
    have hC : iC < (sixL 6).length := by omega
    refine w_join (fun _ : Unit => True) (fun _ => [(9, .ptr 1 0), (10, .sl 5 false ((rulesF l).map ruleAV)), (11, .sl 1 false ((offF fl).map intAV)), (12, .raw (.int .i64 (day % 2001))), (13, .ptr 2 0), (14, .raw (.bool (hasB (ruledF x) (rulesF l) (rulesF l).length))), (17, .slo 3 3 0 ((rulesF l).length + 1)), (18, .slo 4 sv 0 sm.length), (123, .sl 8 false ((sixL 6).map ptAV)), (124, .raw (.int .i64 (((sixL 6).length : Nat) : Int))), (125, .raw (.int .i64 ((iC : Nat) : Int)))]) (fun _ => [.var (noteAV x).cells, .var [nilS, nilS, nilS, .sl 8 false ((sixL 6).map ptAV)], .var (ruleAV (ruledF x)).cells, .vec 5 3 (((rulesF l) ++ [(ruledF x)]).map ruleAV), .vec 1 sv (sm.map intAV), .var (ptAV ((sixL 6)[iC]'hC)).cells]) ?_ ?_
    · refine awp_block ?_
      refine awp_seq ?_
      refine w_reg (l := r4_19.toList) rfl r4_19_ok ?_
      refine a_op rfl (o_ix te28 tn39 rfl rfl rfl (ixm _ _ _ hC)) ?_
      refine a_op rfl ((by first | exact o_ldg tg39 tn39 rfl rfl | exact o_ldpg tg39 tn39 rfl rfl rfl rfl)) ?_
      refine a_op rfl (o_al (N := 5) tz39 rfl rfl rfl) ?_
      refine a_op0 rfl (o_st (N := 7) tn39 rfl rfl (by first | exact good_slo rfl | rfl | (simp [AV.goodPart, AV.good, AV.isCell, fresh, nilS, Value.oneCell']; done)) rfl rfl) ?_
      refine a_nil ?_
      refine tq_n ?_
      refine awp_seq ?_
      have hlaw := more_law (rulesF l) (ruledF x) (ruledF_kind x) (offF fl) sm (day % 2001) hsm (sixL 6)[iC] (rulesF l).length (Nat.le_refl _)
      obtain ⟨f1, f2⟩ := six_find hC
      have hw0 := offF_wr (l := fl) (d := (day % 2001)) (by omega) (by omega)
      rw [← lstat_eq hw0 f1, ← lstat_eq hw0 f1, ← lstat_eq hswr f1] at hlaw
      obtain ⟨w1, w2, w3, w4, w5, w6⟩ := hlaw
      refine awp_draw ⟨[[], [], [], [], [3], [], [0, 1, 2, 3, 4, 5], [], [], [], [], [10], [], [0, 1, 2, 3, 4, 5, 6, 7, 8, 9, 10, 11, 12], [], [], [], [], [17], [], [0, 1, 2, 3, 4, 5, 6, 7, 8, 9, 10, 11, 12, 13, 14, 15, 16, 17, 18, 19], [0, 1, 2, 3, 4, 5, 6, 7, 8, 9, 10, 11, 12, 13, 14, 15, 16, 17, 18, 19, 20], [0, 1, 2, 3, 4, 5, 6, 7, 8, 9, 10, 11, 12, 13, 14, 15, 16, 17, 18, 19, 20, 21], [0, 1, 2, 3, 4, 5, 6, 7, 8, 9, 10, 11, 12, 13, 14, 15, 16, 17, 18, 19, 20, 21, 22]], [[9], [10], [11], [21], [132], [12], [129, 130, 131, 133, 134], [9], [17], [11], [21], [139], [12], [136, 137, 138, 140, 141], [9], [10], [18], [21], [146], [12], [143, 144, 145, 147, 148], [135], [142], [149]], [[1], [], [], [], [5], [], [], [1], [], [], [], [5], [], [3], [1], [], [], [], [5], [], [4], [], [], []], [none, none, none, none, none, none, none, none, none, none, none, none, none, none, none, none, none, none, none, none, none, none, none, none]⟩ mo r4_20_ok (by decide +kernel) (l := r4_20.toList) rfl ?_
      refine d_op rfl rfl rfl (fun _ => (by first | exact o_ldg tg30 tn30 rfl rfl | exact o_ldpg tg30 tn30 rfl rfl rfl rfl)) ?_
      refine d_op rfl rfl rfl (fun _ => o_mv rfl) ?_
      refine d_op rfl rfl rfl (fun _ => o_mv rfl) ?_
      refine d_op rfl rfl rfl (fun _ => (by first | exact o_fa tf39_0 rfl rfl | exact o_fap tf39_0 rfl rfl)) ?_
      refine d_op rfl rfl rfl (fun _ => (by first | exact o_ld tg3 rfl rfl | exact o_ldp tg3 rfl rfl rfl rfl)) ?_
      refine d_op rfl rfl rfl (fun _ => o_mv rfl) ?_
      refine d_pure rfl rfl rfl rfl cb14 (lstat_ok _ _ _ cel_nilS cel_nilS cel_nilS _ _ (by omega) _ _ (by omega) (hRx) _ _ (by omega) _ _) ?_
      refine d_op rfl rfl rfl (fun _ => (by first | exact o_ldg tg30 tn30 rfl rfl | exact o_ldpg tg30 tn30 rfl rfl rfl rfl)) ?_
      refine d_op rfl rfl rfl (fun _ => o_mv rfl) ?_
      refine d_op rfl rfl rfl (fun _ => o_mv rfl) ?_
      refine d_op rfl rfl rfl (fun _ => (by first | exact o_fa tf39_0 rfl rfl | exact o_fap tf39_0 rfl rfl)) ?_
      refine d_op rfl rfl rfl (fun _ => (by first | exact o_ld tg3 rfl rfl | exact o_ldp tg3 rfl rfl rfl rfl)) ?_
      refine d_op rfl rfl rfl (fun _ => o_mv rfl) ?_
      refine d_lend (vs' := [refAV nilS nilS nilS false ((sixL 6)), .sl 5 false (((rulesF l) ++ [(ruledF x)]).map ruleAV), .sl 1 false ((offF fl : List Int).map intAV), .raw (.int .i64 ((sixL 6)[iC]'hC).id), .raw (.int .i64 (day % 2001))]) rfl rfl rfl rfl rfl cb14 (lstat_ok _ _ _ cel_nilS cel_nilS cel_nilS _ _ (by omega) _ _ (by simp; omega) (hRX) _ _ (by omega) _ _) (fun _ => ⟨rs_pur (by simp [refAV, nilS]) rfl, rs_slo id rfl (by simp) (pmr _) rfl, rs_pur (by simp) rfl, rs_pur (by simp) rfl, rs_pur (by simp) rfl, trivial⟩) (by simp) ?_
      refine d_op rfl rfl rfl (fun _ => (by first | exact o_ldg tg30 tn30 rfl rfl | exact o_ldpg tg30 tn30 rfl rfl rfl rfl)) ?_
      refine d_op rfl rfl rfl (fun _ => o_mv rfl) ?_
      refine d_op rfl rfl rfl (fun _ => o_mv rfl) ?_
      refine d_op rfl rfl rfl (fun _ => (by first | exact o_fa tf39_0 rfl rfl | exact o_fap tf39_0 rfl rfl)) ?_
      refine d_op rfl rfl rfl (fun _ => (by first | exact o_ld tg3 rfl rfl | exact o_ldp tg3 rfl rfl rfl rfl)) ?_
      refine d_op rfl rfl rfl (fun _ => o_mv rfl) ?_
      refine d_lend (vs' := [refAV nilS nilS nilS false ((sixL 6)), .sl 5 false ((rulesF l).map ruleAV), .sl 1 false ((sm : List Int).map intAV), .raw (.int .i64 ((sixL 6)[iC]'hC).id), .raw (.int .i64 (day % 2001))]) rfl rfl rfl rfl rfl cb14 (lstat_ok _ _ _ cel_nilS cel_nilS cel_nilS _ _ (by omega) _ _ (by omega) (hRx) _ _ (by omega) _ _) (fun _ => ⟨rs_pur (by simp [refAV, nilS]) rfl, rs_pur (by simp) rfl, rs_slo id rfl (by simp) (by simp) rfl, rs_pur (by simp) rfl, rs_pur (by simp) rfl, trivial⟩) (by simp) ?_
      refine d_op rfl rfl rfl (fun _ => o_as rfl) ?_
      refine d_op rfl rfl rfl (fun _ => o_as rfl) ?_
      refine d_op rfl rfl rfl (fun _ => o_as rfl) ?_
      refine d_nil ?_
      refine tq_n ?_
      refine awp_seq ?_
      refine awp_seq ?_
      refine w_reg (l := r4_21.toList) rfl r4_21_ok ?_
      refine a_op rfl ((by first | exact o_fa tf39_0 rfl rfl | exact o_fap tf39_0 rfl rfl)) ?_
      refine a_op rfl ((by first | exact o_ld tg3 rfl rfl | exact o_ldp tg3 rfl rfl rfl rfl)) ?_
      refine a_op rfl ((by first | exact o_fa tf37_0 rfl rfl | exact o_fap tf37_0 rfl rfl)) ?_
      refine a_op rfl ((by first | exact o_ld tg3 rfl rfl | exact o_ldp tg3 rfl rfl rfl rfl)) ?_
      refine a_if rfl (o_ne rfl rfl) (fun h17 => ?_) (fun h18 => ?_)
      · refine a_op rfl (o_mv rfl) ?_
        refine a_op rfl (o_mv rfl) ?_
        refine a_op rfl (o_mv rfl) ?_
        refine a_if rfl (o_ne rfl rfl) (fun h19 => ?_) (fun h20 => ?_)
        · have w1a := w1 (by assumption); omega
        refine a_op rfl (o_pkt rfl rfl) ?_
        refine a_nil ?_
        refine tq_n ?_
        refine w_false rfl ?_
        refine awp_skip ?_
        refine tq_n ?_
        refine awp_seq ?_
        refine awp_seq ?_
        refine w_reg (l := r4_23.toList) rfl r4_23_ok ?_
        refine a_ifb rfl (o_mv rfl) (fun h21 => ?_) (fun h22 => ?_)
        · refine a_op rfl (o_mv rfl) ?_
          refine a_op rfl ((by first | exact o_fa tf37_1 rfl rfl | exact o_fap tf37_1 rfl rfl)) ?_
          refine a_op rfl ((by first | exact o_ld tg5 rfl rfl | exact o_ldp tg5 rfl rfl rfl rfl)) ?_
          refine a_if rfl (o_ne rfl rfl) (fun h23 => ?_) (fun h24 => ?_)
          · refine a_op rfl (o_pkt rfl rfl) ?_
            refine a_nil ?_
            refine tq_n ?_
            refine w_true rfl ?_
            refine awp_seq ?_
            refine w_reg (l := r4_24.toList) rfl r4_24_ok ?_
            refine a_op rfl (o_mv rfl) ?_
            refine a_if rfl (o_eq rfl rfl) (fun h25 => ?_) (fun h26 => ?_)
            · refine a_op rfl (o_mv rfl) ?_
              refine a_op rfl (o_mv rfl) ?_
              refine a_op rfl (o_mv rfl) ?_
              refine a_if rfl (o_ne rfl rfl) (fun h27 => ?_) (fun h28 => ?_)
              · have w2a := w2 (by assumption) (by assumption) (by assumption); omega
              refine a_op rfl (o_pkt rfl rfl) ?_
              refine a_nil ?_
              refine tq_n ?_
              refine w_false rfl ?_
              refine awp_skip ?_
              refine tq_n ?_
              refine awp_seq ?_
              refine w_reg (l := r4_28.toList) rfl r4_28_ok ?_
              refine a_op rfl ((by first | exact o_fa tf39_2 rfl rfl | exact o_fap tf39_2 rfl rfl)) ?_
              refine a_op rfl ((by first | exact o_ld tg3 rfl rfl | exact o_ldp tg3 rfl rfl rfl rfl)) ?_
              refine a_if rfl (o_ne rfl rfl) (fun h29 => ?_) (fun h30 => ?_)
              · refine a_op rfl (o_mv rfl) ?_
                refine a_op rfl (o_mv rfl) ?_
                refine a_op rfl (o_mv rfl) ?_
                refine a_if rfl (o_ne rfl rfl) (fun h31 => ?_) (fun h32 => ?_)
                · have w4a := w4 (by assumption); omega
                refine a_op rfl (o_pkt rfl rfl) ?_
                refine a_op rfl (o_mv rfl) ?_
                refine a_op rfl ((by first | exact o_fa tf39_2 rfl rfl | exact o_fap tf39_2 rfl rfl)) ?_
                refine a_op rfl ((by first | exact o_ld tg3 rfl rfl | exact o_ldp tg3 rfl rfl rfl rfl)) ?_
                refine a_if rfl (o_eq rfl rfl) (fun h33 => ?_) (fun h34 => ?_)
                · refine a_op rfl (o_mv rfl) ?_
                  refine a_op rfl (o_mv rfl) ?_
                  refine a_if rfl (o_eq rfl rfl) (fun h35 => ?_) (fun h36 => ?_)
                  · have w5a := w5 (by assumption); omega
                  refine a_op rfl (o_pkt rfl rfl) ?_
                  refine a_op rfl (o_pkf rfl rfl) ?_
                  refine a_op rfl (o_mv rfl) ?_
                  refine a_op rfl (o_mv rfl) ?_
                  refine a_if rfl (o_eq rfl rfl) (fun h37 => ?_) (fun h38 => ?_)
                  · refine a_op rfl (o_mv rfl) ?_
                    refine a_op rfl (o_mv rfl) ?_
                    refine a_op rfl (o_mv rfl) ?_
                    refine a_if rfl (o_ne rfl rfl) (fun h39 => ?_) (fun h40 => ?_)
                    · have w6a := w6 (by assumption); omega
                    refine a_op rfl (o_pkt rfl rfl) ?_
                    refine a_op rfl (o_pkf rfl rfl) ?_
                    refine a_nil ?_
                    refine tq_n ?_
                    refine w_false rfl ?_
                    refine awp_skip ?_
                    refine bq_n ?_
                    refine tq_n ?_
                    exact ⟨(), trivial, ⟨rfl, rfl, rfl, rfl, rfl, rfl, rfl, rfl, rfl, rfl, rfl, trivial⟩, rfl⟩
                  refine a_op rfl (o_mv rfl) ?_
                  refine a_off rfl ?_
                  refine a_off rfl ?_
                  refine a_off rfl ?_
                  refine a_op rfl (o_pkf rfl rfl) ?_
                  refine a_op rfl (o_pkf rfl rfl) ?_
                  refine a_nil ?_
                  refine tq_n ?_
                  refine w_false rfl ?_
                  refine awp_skip ?_
                  refine bq_n ?_
                  refine tq_n ?_
                  exact ⟨(), trivial, ⟨rfl, rfl, rfl, rfl, rfl, rfl, rfl, rfl, rfl, rfl, rfl, trivial⟩, rfl⟩
                refine a_op rfl (o_mv rfl) ?_
                refine a_off rfl ?_
                refine a_off rfl ?_
                refine a_op rfl (o_pkf rfl rfl) ?_
                refine a_op rfl (o_pkf rfl rfl) ?_
                refine a_op rfl (o_mv rfl) ?_
                refine a_op rfl (o_mv rfl) ?_
                refine a_if rfl (o_eq rfl rfl) (fun h41 => ?_) (fun h42 => ?_)
                · refine a_op rfl (o_mv rfl) ?_
                  refine a_op rfl (o_mv rfl) ?_
                  refine a_op rfl (o_mv rfl) ?_
                  refine a_if rfl (o_ne rfl rfl) (fun h43 => ?_) (fun h44 => ?_)
                  · have w6a := w6 (by assumption); omega
                  refine a_op rfl (o_pkt rfl rfl) ?_
                  refine a_op rfl (o_pkf rfl rfl) ?_
                  refine a_nil ?_
                  refine tq_n ?_
                  refine w_false rfl ?_
                  refine awp_skip ?_
                  refine bq_n ?_
                  refine tq_n ?_
                  exact ⟨(), trivial, ⟨rfl, rfl, rfl, rfl, rfl, rfl, rfl, rfl, rfl, rfl, rfl, trivial⟩, rfl⟩
                refine a_op rfl (o_mv rfl) ?_
                refine a_off rfl ?_
                refine a_off rfl ?_
                refine a_off rfl ?_
                refine a_op rfl (o_pkf rfl rfl) ?_
                refine a_op rfl (o_pkf rfl rfl) ?_
                refine a_nil ?_
                refine tq_n ?_
                refine w_false rfl ?_
                refine awp_skip ?_
                refine bq_n ?_
                refine tq_n ?_
                exact ⟨(), trivial, ⟨rfl, rfl, rfl, rfl, rfl, rfl, rfl, rfl, rfl, rfl, rfl, trivial⟩, rfl⟩
              refine a_op rfl (o_mv rfl) ?_
              refine a_off rfl ?_
              refine a_off rfl ?_
              refine a_off rfl ?_
              refine a_op rfl (o_pkf rfl rfl) ?_
              refine a_op rfl (o_mv rfl) ?_
              refine a_op rfl ((by first | exact o_fa tf39_2 rfl rfl | exact o_fap tf39_2 rfl rfl)) ?_
              refine a_op rfl ((by first | exact o_ld tg3 rfl rfl | exact o_ldp tg3 rfl rfl rfl rfl)) ?_
              refine a_if rfl (o_eq rfl rfl) (fun h45 => ?_) (fun h46 => ?_)
              · refine a_op rfl (o_mv rfl) ?_
                refine a_op rfl (o_mv rfl) ?_
                refine a_if rfl (o_eq rfl rfl) (fun h47 => ?_) (fun h48 => ?_)
                · have w5a := w5 (by assumption); omega
                refine a_op rfl (o_pkt rfl rfl) ?_
                refine a_op rfl (o_pkf rfl rfl) ?_
                refine a_op rfl (o_mv rfl) ?_
                refine a_op rfl (o_mv rfl) ?_
                refine a_if rfl (o_eq rfl rfl) (fun h49 => ?_) (fun h50 => ?_)
                · refine a_op rfl (o_mv rfl) ?_
                  refine a_op rfl (o_mv rfl) ?_
                  refine a_op rfl (o_mv rfl) ?_
                  refine a_if rfl (o_ne rfl rfl) (fun h51 => ?_) (fun h52 => ?_)
                  · have w6a := w6 (by assumption); omega
                  refine a_op rfl (o_pkt rfl rfl) ?_
                  refine a_op rfl (o_pkf rfl rfl) ?_
                  refine a_nil ?_
                  refine tq_n ?_
                  refine w_false rfl ?_
                  refine awp_skip ?_
                  refine bq_n ?_
                  refine tq_n ?_
                  exact ⟨(), trivial, ⟨rfl, rfl, rfl, rfl, rfl, rfl, rfl, rfl, rfl, rfl, rfl, trivial⟩, rfl⟩
                refine a_op rfl (o_mv rfl) ?_
                refine a_off rfl ?_
                refine a_off rfl ?_
                refine a_off rfl ?_
                refine a_op rfl (o_pkf rfl rfl) ?_
                refine a_op rfl (o_pkf rfl rfl) ?_
                refine a_nil ?_
                refine tq_n ?_
                refine w_false rfl ?_
                refine awp_skip ?_
                refine bq_n ?_
                refine tq_n ?_
                exact ⟨(), trivial, ⟨rfl, rfl, rfl, rfl, rfl, rfl, rfl, rfl, rfl, rfl, rfl, trivial⟩, rfl⟩
              refine a_op rfl (o_mv rfl) ?_
              refine a_off rfl ?_
              refine a_off rfl ?_
              refine a_op rfl (o_pkf rfl rfl) ?_
              refine a_op rfl (o_pkf rfl rfl) ?_
              refine a_op rfl (o_mv rfl) ?_
              refine a_op rfl (o_mv rfl) ?_
              refine a_if rfl (o_eq rfl rfl) (fun h53 => ?_) (fun h54 => ?_)
              · refine a_op rfl (o_mv rfl) ?_
                refine a_op rfl (o_mv rfl) ?_
                refine a_op rfl (o_mv rfl) ?_
                refine a_if rfl (o_ne rfl rfl) (fun h55 => ?_) (fun h56 => ?_)
                · have w6a := w6 (by assumption); omega
                refine a_op rfl (o_pkt rfl rfl) ?_
                refine a_op rfl (o_pkf rfl rfl) ?_
                refine a_nil ?_
                refine tq_n ?_
                refine w_false rfl ?_
                refine awp_skip ?_
                refine bq_n ?_
                refine tq_n ?_
                exact ⟨(), trivial, ⟨rfl, rfl, rfl, rfl, rfl, rfl, rfl, rfl, rfl, rfl, rfl, trivial⟩, rfl⟩
              refine a_op rfl (o_mv rfl) ?_
              refine a_off rfl ?_
              refine a_off rfl ?_
              refine a_off rfl ?_
              refine a_op rfl (o_pkf rfl rfl) ?_
              refine a_op rfl (o_pkf rfl rfl) ?_
              refine a_nil ?_
              refine tq_n ?_
              refine w_false rfl ?_
              refine awp_skip ?_
              refine bq_n ?_
              refine tq_n ?_
              exact ⟨(), trivial, ⟨rfl, rfl, rfl, rfl, rfl, rfl, rfl, rfl, rfl, rfl, rfl, trivial⟩, rfl⟩
            refine a_op rfl (o_mv rfl) ?_
            refine a_off rfl ?_
            refine a_off rfl ?_
            refine a_off rfl ?_
            refine a_op rfl (o_pkf rfl rfl) ?_
            refine a_nil ?_
            refine tq_n ?_
            refine w_false rfl ?_
            refine awp_skip ?_
            refine tq_n ?_
            refine awp_seq ?_
            refine w_reg (l := r4_28.toList) rfl r4_28_ok ?_
            refine a_op rfl ((by first | exact o_fa tf39_2 rfl rfl | exact o_fap tf39_2 rfl rfl)) ?_
            refine a_op rfl ((by first | exact o_ld tg3 rfl rfl | exact o_ldp tg3 rfl rfl rfl rfl)) ?_
            refine a_if rfl (o_ne rfl rfl) (fun h57 => ?_) (fun h58 => ?_)
            · refine a_op rfl (o_mv rfl) ?_
              refine a_op rfl (o_mv rfl) ?_
              refine a_op rfl (o_mv rfl) ?_
              refine a_if rfl (o_ne rfl rfl) (fun h59 => ?_) (fun h60 => ?_)
              · have w4a := w4 (by assumption); omega
              refine a_op rfl (o_pkt rfl rfl) ?_
              refine a_op rfl (o_mv rfl) ?_
              refine a_op rfl ((by first | exact o_fa tf39_2 rfl rfl | exact o_fap tf39_2 rfl rfl)) ?_
              refine a_op rfl ((by first | exact o_ld tg3 rfl rfl | exact o_ldp tg3 rfl rfl rfl rfl)) ?_
              refine a_if rfl (o_eq rfl rfl) (fun h61 => ?_) (fun h62 => ?_)
              · refine a_op rfl (o_mv rfl) ?_
                refine a_op rfl (o_mv rfl) ?_
                refine a_if rfl (o_eq rfl rfl) (fun h63 => ?_) (fun h64 => ?_)
                · have w5a := w5 (by assumption); omega
                refine a_op rfl (o_pkt rfl rfl) ?_
                refine a_op rfl (o_pkf rfl rfl) ?_
                refine a_op rfl (o_mv rfl) ?_
                refine a_op rfl (o_mv rfl) ?_
                refine a_if rfl (o_eq rfl rfl) (fun h65 => ?_) (fun h66 => ?_)
                · refine a_op rfl (o_mv rfl) ?_
                  refine a_op rfl (o_mv rfl) ?_
                  refine a_op rfl (o_mv rfl) ?_
                  refine a_if rfl (o_ne rfl rfl) (fun h67 => ?_) (fun h68 => ?_)
                  · have w6a := w6 (by assumption); omega
                  refine a_op rfl (o_pkt rfl rfl) ?_
                  refine a_op rfl (o_pkf rfl rfl) ?_
                  refine a_nil ?_
                  refine tq_n ?_
                  refine w_false rfl ?_
                  refine awp_skip ?_
                  refine bq_n ?_
                  refine tq_n ?_
                  exact ⟨(), trivial, ⟨rfl, rfl, rfl, rfl, rfl, rfl, rfl, rfl, rfl, rfl, rfl, trivial⟩, rfl⟩
                refine a_op rfl (o_mv rfl) ?_
                refine a_off rfl ?_
                refine a_off rfl ?_
                refine a_off rfl ?_
                refine a_op rfl (o_pkf rfl rfl) ?_
                refine a_op rfl (o_pkf rfl rfl) ?_
                refine a_nil ?_
                refine tq_n ?_
                refine w_false rfl ?_
                refine awp_skip ?_
                refine bq_n ?_
                refine tq_n ?_
                exact ⟨(), trivial, ⟨rfl, rfl, rfl, rfl, rfl, rfl, rfl, rfl, rfl, rfl, rfl, trivial⟩, rfl⟩
              refine a_op rfl (o_mv rfl) ?_
              refine a_off rfl ?_
              refine a_off rfl ?_
              refine a_op rfl (o_pkf rfl rfl) ?_
              refine a_op rfl (o_pkf rfl rfl) ?_
              refine a_op rfl (o_mv rfl) ?_
              refine a_op rfl (o_mv rfl) ?_
              refine a_if rfl (o_eq rfl rfl) (fun h69 => ?_) (fun h70 => ?_)
              · refine a_op rfl (o_mv rfl) ?_
                refine a_op rfl (o_mv rfl) ?_
                refine a_op rfl (o_mv rfl) ?_
                refine a_if rfl (o_ne rfl rfl) (fun h71 => ?_) (fun h72 => ?_)
                · have w6a := w6 (by assumption); omega
                refine a_op rfl (o_pkt rfl rfl) ?_
                refine a_op rfl (o_pkf rfl rfl) ?_
                refine a_nil ?_
                refine tq_n ?_
                refine w_false rfl ?_
                refine awp_skip ?_
                refine bq_n ?_
                refine tq_n ?_
                exact ⟨(), trivial, ⟨rfl, rfl, rfl, rfl, rfl, rfl, rfl, rfl, rfl, rfl, rfl, trivial⟩, rfl⟩
              refine a_op rfl (o_mv rfl) ?_
              refine a_off rfl ?_
              refine a_off rfl ?_
              refine a_off rfl ?_
              refine a_op rfl (o_pkf rfl rfl) ?_
              refine a_op rfl (o_pkf rfl rfl) ?_
              refine a_nil ?_
              refine tq_n ?_
              refine w_false rfl ?_
              refine awp_skip ?_
              refine bq_n ?_
              refine tq_n ?_
              exact ⟨(), trivial, ⟨rfl, rfl, rfl, rfl, rfl, rfl, rfl, rfl, rfl, rfl, rfl, trivial⟩, rfl⟩
            refine a_op rfl (o_mv rfl) ?_
            refine a_off rfl ?_
            refine a_off rfl ?_
            refine a_off rfl ?_
            refine a_op rfl (o_pkf rfl rfl) ?_
            refine a_op rfl (o_mv rfl) ?_
            refine a_op rfl ((by first | exact o_fa tf39_2 rfl rfl | exact o_fap tf39_2 rfl rfl)) ?_
            refine a_op rfl ((by first | exact o_ld tg3 rfl rfl | exact o_ldp tg3 rfl rfl rfl rfl)) ?_
            refine a_if rfl (o_eq rfl rfl) (fun h73 => ?_) (fun h74 => ?_)
            · refine a_op rfl (o_mv rfl) ?_
              refine a_op rfl (o_mv rfl) ?_
              refine a_if rfl (o_eq rfl rfl) (fun h75 => ?_) (fun h76 => ?_)
              · have w5a := w5 (by assumption); omega
              refine a_op rfl (o_pkt rfl rfl) ?_
              refine a_op rfl (o_pkf rfl rfl) ?_
              refine a_op rfl (o_mv rfl) ?_
              refine a_op rfl (o_mv rfl) ?_
              refine a_if rfl (o_eq rfl rfl) (fun h77 => ?_) (fun h78 => ?_)
              · refine a_op rfl (o_mv rfl) ?_
                refine a_op rfl (o_mv rfl) ?_
                refine a_op rfl (o_mv rfl) ?_
                refine a_if rfl (o_ne rfl rfl) (fun h79 => ?_) (fun h80 => ?_)
                · have w6a := w6 (by assumption); omega
                refine a_op rfl (o_pkt rfl rfl) ?_
                refine a_op rfl (o_pkf rfl rfl) ?_
                refine a_nil ?_
                refine tq_n ?_
                refine w_false rfl ?_
                refine awp_skip ?_
                refine bq_n ?_
                refine tq_n ?_
                exact ⟨(), trivial, ⟨rfl, rfl, rfl, rfl, rfl, rfl, rfl, rfl, rfl, rfl, rfl, trivial⟩, rfl⟩
              refine a_op rfl (o_mv rfl) ?_
              refine a_off rfl ?_
              refine a_off rfl ?_
              refine a_off rfl ?_
              refine a_op rfl (o_pkf rfl rfl) ?_
              refine a_op rfl (o_pkf rfl rfl) ?_
              refine a_nil ?_
              refine tq_n ?_
              refine w_false rfl ?_
              refine awp_skip ?_
              refine bq_n ?_
              refine tq_n ?_
              exact ⟨(), trivial, ⟨rfl, rfl, rfl, rfl, rfl, rfl, rfl, rfl, rfl, rfl, rfl, trivial⟩, rfl⟩
            refine a_op rfl (o_mv rfl) ?_
            refine a_off rfl ?_
            refine a_off rfl ?_
            refine a_op rfl (o_pkf rfl rfl) ?_
            refine a_op rfl (o_pkf rfl rfl) ?_
            refine a_op rfl (o_mv rfl) ?_
            refine a_op rfl (o_mv rfl) ?_
            refine a_if rfl (o_eq rfl rfl) (fun h81 => ?_) (fun h82 => ?_)
            · refine a_op rfl (o_mv rfl) ?_
              refine a_op rfl (o_mv rfl) ?_
              refine a_op rfl (o_mv rfl) ?_
              refine a_if rfl (o_ne rfl rfl) (fun h83 => ?_) (fun h84 => ?_)
              · have w6a := w6 (by assumption); omega
              refine a_op rfl (o_pkt rfl rfl) ?_
              refine a_op rfl (o_pkf rfl rfl) ?_
              refine a_nil ?_
              refine tq_n ?_
              refine w_false rfl ?_
              refine awp_skip ?_
              refine bq_n ?_
              refine tq_n ?_
              exact ⟨(), trivial, ⟨rfl, rfl, rfl, rfl, rfl, rfl, rfl, rfl, rfl, rfl, rfl, trivial⟩, rfl⟩
            refine a_op rfl (o_mv rfl) ?_
            refine a_off rfl ?_
            refine a_off rfl ?_
            refine a_off rfl ?_
            refine a_op rfl (o_pkf rfl rfl) ?_
            refine a_op rfl (o_pkf rfl rfl) ?_
            refine a_nil ?_
            refine tq_n ?_
            refine w_false rfl ?_
            refine awp_skip ?_
            refine bq_n ?_
            refine tq_n ?_
            exact ⟨(), trivial, ⟨rfl, rfl, rfl, rfl, rfl, rfl, rfl, rfl, rfl, rfl, rfl, trivial⟩, rfl⟩
          refine a_op rfl (o_pkt rfl rfl) ?_
          refine a_nil ?_
          refine tq_n ?_
          refine w_false rfl ?_
          refine awp_seq ?_
          refine w_reg (l := r4_26.toList) rfl r4_26_ok ?_
          refine a_op rfl (o_mv rfl) ?_
          refine a_if rfl (o_ne rfl rfl) (fun h85 => ?_) (fun h86 => ?_)
          · refine a_op rfl (o_mv rfl) ?_
            refine a_op rfl (o_mv rfl) ?_
            refine a_if rfl (o_eq rfl rfl) (fun h87 => ?_) (fun h88 => ?_)
            · have w3a := w3 (by first | exact .inl (by assumption) | exact .inr (by omega)) (by assumption); omega
            refine a_op rfl (o_pkt rfl rfl) ?_
            refine a_nil ?_
            refine tq_n ?_
            refine w_false rfl ?_
            refine awp_skip ?_
            refine tq_n ?_
            refine awp_seq ?_
            refine w_reg (l := r4_28.toList) rfl r4_28_ok ?_
            refine a_op rfl ((by first | exact o_fa tf39_2 rfl rfl | exact o_fap tf39_2 rfl rfl)) ?_
            refine a_op rfl ((by first | exact o_ld tg3 rfl rfl | exact o_ldp tg3 rfl rfl rfl rfl)) ?_
            refine a_if rfl (o_ne rfl rfl) (fun h89 => ?_) (fun h90 => ?_)
            · refine a_op rfl (o_mv rfl) ?_
              refine a_op rfl (o_mv rfl) ?_
              refine a_op rfl (o_mv rfl) ?_
              refine a_if rfl (o_ne rfl rfl) (fun h91 => ?_) (fun h92 => ?_)
              · have w4a := w4 (by assumption); omega
              refine a_op rfl (o_pkt rfl rfl) ?_
              refine a_op rfl (o_mv rfl) ?_
              refine a_op rfl ((by first | exact o_fa tf39_2 rfl rfl | exact o_fap tf39_2 rfl rfl)) ?_
              refine a_op rfl ((by first | exact o_ld tg3 rfl rfl | exact o_ldp tg3 rfl rfl rfl rfl)) ?_
              refine a_if rfl (o_eq rfl rfl) (fun h93 => ?_) (fun h94 => ?_)
              · refine a_op rfl (o_mv rfl) ?_
                refine a_op rfl (o_mv rfl) ?_
                refine a_if rfl (o_eq rfl rfl) (fun h95 => ?_) (fun h96 => ?_)
                · have w5a := w5 (by assumption); omega
                refine a_op rfl (o_pkt rfl rfl) ?_
                refine a_op rfl (o_pkf rfl rfl) ?_
                refine a_op rfl (o_mv rfl) ?_
                refine a_op rfl (o_mv rfl) ?_
                refine a_if rfl (o_eq rfl rfl) (fun h97 => ?_) (fun h98 => ?_)
                · refine a_op rfl (o_mv rfl) ?_
                  refine a_op rfl (o_mv rfl) ?_
                  refine a_op rfl (o_mv rfl) ?_
                  refine a_if rfl (o_ne rfl rfl) (fun h99 => ?_) (fun h100 => ?_)
                  · have w6a := w6 (by assumption); omega
                  refine a_op rfl (o_pkt rfl rfl) ?_
                  refine a_op rfl (o_pkf rfl rfl) ?_
                  refine a_nil ?_
                  refine tq_n ?_
                  refine w_false rfl ?_
                  refine awp_skip ?_
                  refine bq_n ?_
                  refine tq_n ?_
                  exact ⟨(), trivial, ⟨rfl, rfl, rfl, rfl, rfl, rfl, rfl, rfl, rfl, rfl, rfl, trivial⟩, rfl⟩
                refine a_op rfl (o_mv rfl) ?_
                refine a_off rfl ?_
                refine a_off rfl ?_
                refine a_off rfl ?_
                refine a_op rfl (o_pkf rfl rfl) ?_
                refine a_op rfl (o_pkf rfl rfl) ?_
                refine a_nil ?_
                refine tq_n ?_
                refine w_false rfl ?_
                refine awp_skip ?_
                refine bq_n ?_
                refine tq_n ?_
                exact ⟨(), trivial, ⟨rfl, rfl, rfl, rfl, rfl, rfl, rfl, rfl, rfl, rfl, rfl, trivial⟩, rfl⟩
              refine a_op rfl (o_mv rfl) ?_
              refine a_off rfl ?_
              refine a_off rfl ?_
              refine a_op rfl (o_pkf rfl rfl) ?_
              refine a_op rfl (o_pkf rfl rfl) ?_
              refine a_op rfl (o_mv rfl) ?_
              refine a_op rfl (o_mv rfl) ?_
              refine a_if rfl (o_eq rfl rfl) (fun h101 => ?_) (fun h102 => ?_)
              · refine a_op rfl (o_mv rfl) ?_
                refine a_op rfl (o_mv rfl) ?_
                refine a_op rfl (o_mv rfl) ?_
                refine a_if rfl (o_ne rfl rfl) (fun h103 => ?_) (fun h104 => ?_)
                · have w6a := w6 (by assumption); omega
                refine a_op rfl (o_pkt rfl rfl) ?_
                refine a_op rfl (o_pkf rfl rfl) ?_
                refine a_nil ?_
                refine tq_n ?_
                refine w_false rfl ?_
                refine awp_skip ?_
                refine bq_n ?_
                refine tq_n ?_
                exact ⟨(), trivial, ⟨rfl, rfl, rfl, rfl, rfl, rfl, rfl, rfl, rfl, rfl, rfl, trivial⟩, rfl⟩
              refine a_op rfl (o_mv rfl) ?_
              refine a_off rfl ?_
              refine a_off rfl ?_
              refine a_off rfl ?_
              refine a_op rfl (o_pkf rfl rfl) ?_
              refine a_op rfl (o_pkf rfl rfl) ?_
              refine a_nil ?_
              refine tq_n ?_
              refine w_false rfl ?_
              refine awp_skip ?_
              refine bq_n ?_
              refine tq_n ?_
              exact ⟨(), trivial, ⟨rfl, rfl, rfl, rfl, rfl, rfl, rfl, rfl, rfl, rfl, rfl, trivial⟩, rfl⟩
            refine a_op rfl (o_mv rfl) ?_
            refine a_off rfl ?_
            refine a_off rfl ?_
            refine a_off rfl ?_
            refine a_op rfl (o_pkf rfl rfl) ?_
            refine a_op rfl (o_mv rfl) ?_
            refine a_op rfl ((by first | exact o_fa tf39_2 rfl rfl | exact o_fap tf39_2 rfl rfl)) ?_
            refine a_op rfl ((by first | exact o_ld tg3 rfl rfl | exact o_ldp tg3 rfl rfl rfl rfl)) ?_
            refine a_if rfl (o_eq rfl rfl) (fun h105 => ?_) (fun h106 => ?_)
            · refine a_op rfl (o_mv rfl) ?_
              refine a_op rfl (o_mv rfl) ?_
              refine a_if rfl (o_eq rfl rfl) (fun h107 => ?_) (fun h108 => ?_)
              · have w5a := w5 (by assumption); omega
              refine a_op rfl (o_pkt rfl rfl) ?_
              refine a_op rfl (o_pkf rfl rfl) ?_
              refine a_op rfl (o_mv rfl) ?_
              refine a_op rfl (o_mv rfl) ?_
              refine a_if rfl (o_eq rfl rfl) (fun h109 => ?_) (fun h110 => ?_)
              · refine a_op rfl (o_mv rfl) ?_
                refine a_op rfl (o_mv rfl) ?_
                refine a_op rfl (o_mv rfl) ?_
                refine a_if rfl (o_ne rfl rfl) (fun h111 => ?_) (fun h112 => ?_)
                · have w6a := w6 (by assumption); omega
                refine a_op rfl (o_pkt rfl rfl) ?_
                refine a_op rfl (o_pkf rfl rfl) ?_
                refine a_nil ?_
                refine tq_n ?_
                refine w_false rfl ?_
                refine awp_skip ?_
                refine bq_n ?_
                refine tq_n ?_
                exact ⟨(), trivial, ⟨rfl, rfl, rfl, rfl, rfl, rfl, rfl, rfl, rfl, rfl, rfl, trivial⟩, rfl⟩
              refine a_op rfl (o_mv rfl) ?_
              refine a_off rfl ?_
              refine a_off rfl ?_
              refine a_off rfl ?_
              refine a_op rfl (o_pkf rfl rfl) ?_
              refine a_op rfl (o_pkf rfl rfl) ?_
              refine a_nil ?_
              refine tq_n ?_
              refine w_false rfl ?_
              refine awp_skip ?_
              refine bq_n ?_
              refine tq_n ?_
              exact ⟨(), trivial, ⟨rfl, rfl, rfl, rfl, rfl, rfl, rfl, rfl, rfl, rfl, rfl, trivial⟩, rfl⟩
            refine a_op rfl (o_mv rfl) ?_
            refine a_off rfl ?_
            refine a_off rfl ?_
            refine a_op rfl (o_pkf rfl rfl) ?_
            refine a_op rfl (o_pkf rfl rfl) ?_
            refine a_op rfl (o_mv rfl) ?_
            refine a_op rfl (o_mv rfl) ?_
            refine a_if rfl (o_eq rfl rfl) (fun h113 => ?_) (fun h114 => ?_)
            · refine a_op rfl (o_mv rfl) ?_
              refine a_op rfl (o_mv rfl) ?_
              refine a_op rfl (o_mv rfl) ?_
              refine a_if rfl (o_ne rfl rfl) (fun h115 => ?_) (fun h116 => ?_)
              · have w6a := w6 (by assumption); omega
              refine a_op rfl (o_pkt rfl rfl) ?_
              refine a_op rfl (o_pkf rfl rfl) ?_
              refine a_nil ?_
              refine tq_n ?_
              refine w_false rfl ?_
              refine awp_skip ?_
              refine bq_n ?_
              refine tq_n ?_
              exact ⟨(), trivial, ⟨rfl, rfl, rfl, rfl, rfl, rfl, rfl, rfl, rfl, rfl, rfl, trivial⟩, rfl⟩
            refine a_op rfl (o_mv rfl) ?_
            refine a_off rfl ?_
            refine a_off rfl ?_
            refine a_off rfl ?_
            refine a_op rfl (o_pkf rfl rfl) ?_
            refine a_op rfl (o_pkf rfl rfl) ?_
            refine a_nil ?_
            refine tq_n ?_
            refine w_false rfl ?_
            refine awp_skip ?_
            refine bq_n ?_
            refine tq_n ?_
            exact ⟨(), trivial, ⟨rfl, rfl, rfl, rfl, rfl, rfl, rfl, rfl, rfl, rfl, rfl, trivial⟩, rfl⟩
          refine a_op rfl (o_mv rfl) ?_
          refine a_off rfl ?_
          refine a_off rfl ?_
          refine a_op rfl (o_pkf rfl rfl) ?_
          refine a_nil ?_
          refine tq_n ?_
          refine w_false rfl ?_
          refine awp_skip ?_
          refine tq_n ?_
          refine awp_seq ?_
          refine w_reg (l := r4_28.toList) rfl r4_28_ok ?_
          refine a_op rfl ((by first | exact o_fa tf39_2 rfl rfl | exact o_fap tf39_2 rfl rfl)) ?_
          refine a_op rfl ((by first | exact o_ld tg3 rfl rfl | exact o_ldp tg3 rfl rfl rfl rfl)) ?_
          refine a_if rfl (o_ne rfl rfl) (fun h117 => ?_) (fun h118 => ?_)
          · refine a_op rfl (o_mv rfl) ?_
            refine a_op rfl (o_mv rfl) ?_
            refine a_op rfl (o_mv rfl) ?_
            refine a_if rfl (o_ne rfl rfl) (fun h119 => ?_) (fun h120 => ?_)
            · have w4a := w4 (by assumption); omega
            refine a_op rfl (o_pkt rfl rfl) ?_
            refine a_op rfl (o_mv rfl) ?_
            refine a_op rfl ((by first | exact o_fa tf39_2 rfl rfl | exact o_fap tf39_2 rfl rfl)) ?_
            refine a_op rfl ((by first | exact o_ld tg3 rfl rfl | exact o_ldp tg3 rfl rfl rfl rfl)) ?_
            refine a_if rfl (o_eq rfl rfl) (fun h121 => ?_) (fun h122 => ?_)
            · refine a_op rfl (o_mv rfl) ?_
              refine a_op rfl (o_mv rfl) ?_
              refine a_if rfl (o_eq rfl rfl) (fun h123 => ?_) (fun h124 => ?_)
              · have w5a := w5 (by assumption); omega
              refine a_op rfl (o_pkt rfl rfl) ?_
              refine a_op rfl (o_pkf rfl rfl) ?_
              refine a_op rfl (o_mv rfl) ?_
              refine a_op rfl (o_mv rfl) ?_
              refine a_if rfl (o_eq rfl rfl) (fun h125 => ?_) (fun h126 => ?_)
              · refine a_op rfl (o_mv rfl) ?_
                refine a_op rfl (o_mv rfl) ?_
                refine a_op rfl (o_mv rfl) ?_
                refine a_if rfl (o_ne rfl rfl) (fun h127 => ?_) (fun h128 => ?_)
                · have w6a := w6 (by assumption); omega
                refine a_op rfl (o_pkt rfl rfl) ?_
                refine a_op rfl (o_pkf rfl rfl) ?_
                refine a_nil ?_
                refine tq_n ?_
                refine w_false rfl ?_
                refine awp_skip ?_
                refine bq_n ?_
                refine tq_n ?_
                exact ⟨(), trivial, ⟨rfl, rfl, rfl, rfl, rfl, rfl, rfl, rfl, rfl, rfl, rfl, trivial⟩, rfl⟩
              refine a_op rfl (o_mv rfl) ?_
              refine a_off rfl ?_
              refine a_off rfl ?_
              refine a_off rfl ?_
              refine a_op rfl (o_pkf rfl rfl) ?_
              refine a_op rfl (o_pkf rfl rfl) ?_
              refine a_nil ?_
              refine tq_n ?_
              refine w_false rfl ?_
              refine awp_skip ?_
              refine bq_n ?_
              refine tq_n ?_
              exact ⟨(), trivial, ⟨rfl, rfl, rfl, rfl, rfl, rfl, rfl, rfl, rfl, rfl, rfl, trivial⟩, rfl⟩
            refine a_op rfl (o_mv rfl) ?_
            refine a_off rfl ?_
            refine a_off rfl ?_
            refine a_op rfl (o_pkf rfl rfl) ?_
            refine a_op rfl (o_pkf rfl rfl) ?_
            refine a_op rfl (o_mv rfl) ?_
            refine a_op rfl (o_mv rfl) ?_
            refine a_if rfl (o_eq rfl rfl) (fun h129 => ?_) (fun h130 => ?_)
            · refine a_op rfl (o_mv rfl) ?_
              refine a_op rfl (o_mv rfl) ?_
              refine a_op rfl (o_mv rfl) ?_
              refine a_if rfl (o_ne rfl rfl) (fun h131 => ?_) (fun h132 => ?_)
              · have w6a := w6 (by assumption); omega
              refine a_op rfl (o_pkt rfl rfl) ?_
              refine a_op rfl (o_pkf rfl rfl) ?_
              refine a_nil ?_
              refine tq_n ?_
              refine w_false rfl ?_
              refine awp_skip ?_
              refine bq_n ?_
              refine tq_n ?_
              exact ⟨(), trivial, ⟨rfl, rfl, rfl, rfl, rfl, rfl, rfl, rfl, rfl, rfl, rfl, trivial⟩, rfl⟩
            refine a_op rfl (o_mv rfl) ?_
            refine a_off rfl ?_
            refine a_off rfl ?_
            refine a_off rfl ?_
            refine a_op rfl (o_pkf rfl rfl) ?_
            refine a_op rfl (o_pkf rfl rfl) ?_
            refine a_nil ?_
            refine tq_n ?_
            refine w_false rfl ?_
            refine awp_skip ?_
            refine bq_n ?_
            refine tq_n ?_
            exact ⟨(), trivial, ⟨rfl, rfl, rfl, rfl, rfl, rfl, rfl, rfl, rfl, rfl, rfl, trivial⟩, rfl⟩
          refine a_op rfl (o_mv rfl) ?_
          refine a_off rfl ?_
          refine a_off rfl ?_
          refine a_off rfl ?_
          refine a_op rfl (o_pkf rfl rfl) ?_
          refine a_op rfl (o_mv rfl) ?_
          refine a_op rfl ((by first | exact o_fa tf39_2 rfl rfl | exact o_fap tf39_2 rfl rfl)) ?_
          refine a_op rfl ((by first | exact o_ld tg3 rfl rfl | exact o_ldp tg3 rfl rfl rfl rfl)) ?_
          refine a_if rfl (o_eq rfl rfl) (fun h133 => ?_) (fun h134 => ?_)
          · refine a_op rfl (o_mv rfl) ?_
            refine a_op rfl (o_mv rfl) ?_
            refine a_if rfl (o_eq rfl rfl) (fun h135 => ?_) (fun h136 => ?_)
            · have w5a := w5 (by assumption); omega
            refine a_op rfl (o_pkt rfl rfl) ?_
            refine a_op rfl (o_pkf rfl rfl) ?_
            refine a_op rfl (o_mv rfl) ?_
            refine a_op rfl (o_mv rfl) ?_
            refine a_if rfl (o_eq rfl rfl) (fun h137 => ?_) (fun h138 => ?_)
            · refine a_op rfl (o_mv rfl) ?_
              refine a_op rfl (o_mv rfl) ?_
              refine a_op rfl (o_mv rfl) ?_
              refine a_if rfl (o_ne rfl rfl) (fun h139 => ?_) (fun h140 => ?_)
              · have w6a := w6 (by assumption); omega
              refine a_op rfl (o_pkt rfl rfl) ?_
              refine a_op rfl (o_pkf rfl rfl) ?_
              refine a_nil ?_
              refine tq_n ?_
              refine w_false rfl ?_
              refine awp_skip ?_
              refine bq_n ?_
              refine tq_n ?_
              exact ⟨(), trivial, ⟨rfl, rfl, rfl, rfl, rfl, rfl, rfl, rfl, rfl, rfl, rfl, trivial⟩, rfl⟩
            refine a_op rfl (o_mv rfl) ?_
            refine a_off rfl ?_
            refine a_off rfl ?_
            refine a_off rfl ?_
            refine a_op rfl (o_pkf rfl rfl) ?_
            refine a_op rfl (o_pkf rfl rfl) ?_
            refine a_nil ?_
            refine tq_n ?_
            refine w_false rfl ?_
            refine awp_skip ?_
            refine bq_n ?_
            refine tq_n ?_
            exact ⟨(), trivial, ⟨rfl, rfl, rfl, rfl, rfl, rfl, rfl, rfl, rfl, rfl, rfl, trivial⟩, rfl⟩
          refine a_op rfl (o_mv rfl) ?_
          refine a_off rfl ?_
          refine a_off rfl ?_
          refine a_op rfl (o_pkf rfl rfl) ?_
          refine a_op rfl (o_pkf rfl rfl) ?_
          refine a_op rfl (o_mv rfl) ?_
          refine a_op rfl (o_mv rfl) ?_
          refine a_if rfl (o_eq rfl rfl) (fun h141 => ?_) (fun h142 => ?_)
          · refine a_op rfl (o_mv rfl) ?_
            refine a_op rfl (o_mv rfl) ?_
            refine a_op rfl (o_mv rfl) ?_
            refine a_if rfl (o_ne rfl rfl) (fun h143 => ?_) (fun h144 => ?_)
            · have w6a := w6 (by assumption); omega
            refine a_op rfl (o_pkt rfl rfl) ?_
            refine a_op rfl (o_pkf rfl rfl) ?_
            refine a_nil ?_
            refine tq_n ?_
            refine w_false rfl ?_
            refine awp_skip ?_
            refine bq_n ?_
            refine tq_n ?_
            exact ⟨(), trivial, ⟨rfl, rfl, rfl, rfl, rfl, rfl, rfl, rfl, rfl, rfl, rfl, trivial⟩, rfl⟩
          refine a_op rfl (o_mv rfl) ?_
          refine a_off rfl ?_
          refine a_off rfl ?_
          refine a_off rfl ?_
          refine a_op rfl (o_pkf rfl rfl) ?_
          refine a_op rfl (o_pkf rfl rfl) ?_
          refine a_nil ?_
          refine tq_n ?_
          refine w_false rfl ?_
          refine awp_skip ?_
          refine bq_n ?_
          refine tq_n ?_
          exact ⟨(), trivial, ⟨rfl, rfl, rfl, rfl, rfl, rfl, rfl, rfl, rfl, rfl, rfl, trivial⟩, rfl⟩
        refine a_op rfl (o_mv rfl) ?_
        refine a_off rfl ?_
        refine a_off rfl ?_
        refine a_off rfl ?_
        refine a_op rfl (o_pkf rfl rfl) ?_
        refine a_nil ?_
        refine tq_n ?_
        refine w_false rfl ?_
        refine awp_seq ?_
        refine w_reg (l := r4_26.toList) rfl r4_26_ok ?_
        refine a_op rfl (o_mv rfl) ?_
        refine a_if rfl (o_ne rfl rfl) (fun h145 => ?_) (fun h146 => ?_)
        · refine a_op rfl (o_mv rfl) ?_
          refine a_op rfl (o_mv rfl) ?_
          refine a_if rfl (o_eq rfl rfl) (fun h147 => ?_) (fun h148 => ?_)
          · have w3a := w3 (by first | exact .inl (by assumption) | exact .inr (by omega)) (by assumption); omega
          refine a_op rfl (o_pkt rfl rfl) ?_
          refine a_nil ?_
          refine tq_n ?_
          refine w_false rfl ?_
          refine awp_skip ?_
          refine tq_n ?_
          refine awp_seq ?_
          refine w_reg (l := r4_28.toList) rfl r4_28_ok ?_
          refine a_op rfl ((by first | exact o_fa tf39_2 rfl rfl | exact o_fap tf39_2 rfl rfl)) ?_
          refine a_op rfl ((by first | exact o_ld tg3 rfl rfl | exact o_ldp tg3 rfl rfl rfl rfl)) ?_
          refine a_if rfl (o_ne rfl rfl) (fun h149 => ?_) (fun h150 => ?_)
          · refine a_op rfl (o_mv rfl) ?_
            refine a_op rfl (o_mv rfl) ?_
            refine a_op rfl (o_mv rfl) ?_
            refine a_if rfl (o_ne rfl rfl) (fun h151 => ?_) (fun h152 => ?_)
            · have w4a := w4 (by assumption); omega
            refine a_op rfl (o_pkt rfl rfl) ?_
            refine a_op rfl (o_mv rfl) ?_
            refine a_op rfl ((by first | exact o_fa tf39_2 rfl rfl | exact o_fap tf39_2 rfl rfl)) ?_
            refine a_op rfl ((by first | exact o_ld tg3 rfl rfl | exact o_ldp tg3 rfl rfl rfl rfl)) ?_
            refine a_if rfl (o_eq rfl rfl) (fun h153 => ?_) (fun h154 => ?_)
            · refine a_op rfl (o_mv rfl) ?_
              refine a_op rfl (o_mv rfl) ?_
              refine a_if rfl (o_eq rfl rfl) (fun h155 => ?_) (fun h156 => ?_)
              · have w5a := w5 (by assumption); omega
              refine a_op rfl (o_pkt rfl rfl) ?_
              refine a_op rfl (o_pkf rfl rfl) ?_
              refine a_op rfl (o_mv rfl) ?_
              refine a_op rfl (o_mv rfl) ?_
              refine a_if rfl (o_eq rfl rfl) (fun h157 => ?_) (fun h158 => ?_)
              · refine a_op rfl (o_mv rfl) ?_
                refine a_op rfl (o_mv rfl) ?_
                refine a_op rfl (o_mv rfl) ?_
                refine a_if rfl (o_ne rfl rfl) (fun h159 => ?_) (fun h160 => ?_)
                · have w6a := w6 (by assumption); omega
                refine a_op rfl (o_pkt rfl rfl) ?_
                refine a_op rfl (o_pkf rfl rfl) ?_
                refine a_nil ?_
                refine tq_n ?_
                refine w_false rfl ?_
                refine awp_skip ?_
                refine bq_n ?_
                refine tq_n ?_
                exact ⟨(), trivial, ⟨rfl, rfl, rfl, rfl, rfl, rfl, rfl, rfl, rfl, rfl, rfl, trivial⟩, rfl⟩
              refine a_op rfl (o_mv rfl) ?_
              refine a_off rfl ?_
              refine a_off rfl ?_
              refine a_off rfl ?_
              refine a_op rfl (o_pkf rfl rfl) ?_
              refine a_op rfl (o_pkf rfl rfl) ?_
              refine a_nil ?_
              refine tq_n ?_
              refine w_false rfl ?_
              refine awp_skip ?_
              refine bq_n ?_
              refine tq_n ?_
              exact ⟨(), trivial, ⟨rfl, rfl, rfl, rfl, rfl, rfl, rfl, rfl, rfl, rfl, rfl, trivial⟩, rfl⟩
            refine a_op rfl (o_mv rfl) ?_
            refine a_off rfl ?_
            refine a_off rfl ?_
            refine a_op rfl (o_pkf rfl rfl) ?_
            refine a_op rfl (o_pkf rfl rfl) ?_
            refine a_op rfl (o_mv rfl) ?_
            refine a_op rfl (o_mv rfl) ?_
            refine a_if rfl (o_eq rfl rfl) (fun h161 => ?_) (fun h162 => ?_)
            · refine a_op rfl (o_mv rfl) ?_
              refine a_op rfl (o_mv rfl) ?_
              refine a_op rfl (o_mv rfl) ?_
              refine a_if rfl (o_ne rfl rfl) (fun h163 => ?_) (fun h164 => ?_)
              · have w6a := w6 (by assumption); omega
              refine a_op rfl (o_pkt rfl rfl) ?_
              refine a_op rfl (o_pkf rfl rfl) ?_
              refine a_nil ?_
              refine tq_n ?_
              refine w_false rfl ?_
              refine awp_skip ?_
              refine bq_n ?_
              refine tq_n ?_
              exact ⟨(), trivial, ⟨rfl, rfl, rfl, rfl, rfl, rfl, rfl, rfl, rfl, rfl, rfl, trivial⟩, rfl⟩
            refine a_op rfl (o_mv rfl) ?_
            refine a_off rfl ?_
            refine a_off rfl ?_
            refine a_off rfl ?_
            refine a_op rfl (o_pkf rfl rfl) ?_
            refine a_op rfl (o_pkf rfl rfl) ?_
            refine a_nil ?_
            refine tq_n ?_
            refine w_false rfl ?_
            refine awp_skip ?_
            refine bq_n ?_
            refine tq_n ?_
            exact ⟨(), trivial, ⟨rfl, rfl, rfl, rfl, rfl, rfl, rfl, rfl, rfl, rfl, rfl, trivial⟩, rfl⟩
          refine a_op rfl (o_mv rfl) ?_
          refine a_off rfl ?_
          refine a_off rfl ?_
          refine a_off rfl ?_
          refine a_op rfl (o_pkf rfl rfl) ?_
          refine a_op rfl (o_mv rfl) ?_
          refine a_op rfl ((by first | exact o_fa tf39_2 rfl rfl | exact o_fap tf39_2 rfl rfl)) ?_
          refine a_op rfl ((by first | exact o_ld tg3 rfl rfl | exact o_ldp tg3 rfl rfl rfl rfl)) ?_
          refine a_if rfl (o_eq rfl rfl) (fun h165 => ?_) (fun h166 => ?_)
          · refine a_op rfl (o_mv rfl) ?_
            refine a_op rfl (o_mv rfl) ?_
            refine a_if rfl (o_eq rfl rfl) (fun h167 => ?_) (fun h168 => ?_)
            · have w5a := w5 (by assumption); omega
            refine a_op rfl (o_pkt rfl rfl) ?_
            refine a_op rfl (o_pkf rfl rfl) ?_
            refine a_op rfl (o_mv rfl) ?_
            refine a_op rfl (o_mv rfl) ?_
            refine a_if rfl (o_eq rfl rfl) (fun h169 => ?_) (fun h170 => ?_)
            · refine a_op rfl (o_mv rfl) ?_
              refine a_op rfl (o_mv rfl) ?_
              refine a_op rfl (o_mv rfl) ?_
              refine a_if rfl (o_ne rfl rfl) (fun h171 => ?_) (fun h172 => ?_)
              · have w6a := w6 (by assumption); omega
              refine a_op rfl (o_pkt rfl rfl) ?_
              refine a_op rfl (o_pkf rfl rfl) ?_
              refine a_nil ?_
              refine tq_n ?_
              refine w_false rfl ?_
              refine awp_skip ?_
              refine bq_n ?_
              refine tq_n ?_
              exact ⟨(), trivial, ⟨rfl, rfl, rfl, rfl, rfl, rfl, rfl, rfl, rfl, rfl, rfl, trivial⟩, rfl⟩
            refine a_op rfl (o_mv rfl) ?_
            refine a_off rfl ?_
            refine a_off rfl ?_
            refine a_off rfl ?_
            refine a_op rfl (o_pkf rfl rfl) ?_
            refine a_op rfl (o_pkf rfl rfl) ?_
            refine a_nil ?_
            refine tq_n ?_
            refine w_false rfl ?_
            refine awp_skip ?_
            refine bq_n ?_
            refine tq_n ?_
            exact ⟨(), trivial, ⟨rfl, rfl, rfl, rfl, rfl, rfl, rfl, rfl, rfl, rfl, rfl, trivial⟩, rfl⟩
          refine a_op rfl (o_mv rfl) ?_
          refine a_off rfl ?_
          refine a_off rfl ?_
          refine a_op rfl (o_pkf rfl rfl) ?_
          refine a_op rfl (o_pkf rfl rfl) ?_
          refine a_op rfl (o_mv rfl) ?_
          refine a_op rfl (o_mv rfl) ?_
          refine a_if rfl (o_eq rfl rfl) (fun h173 => ?_) (fun h174 => ?_)
          · refine a_op rfl (o_mv rfl) ?_
            refine a_op rfl (o_mv rfl) ?_
            refine a_op rfl (o_mv rfl) ?_
            refine a_if rfl (o_ne rfl rfl) (fun h175 => ?_) (fun h176 => ?_)
            · have w6a := w6 (by assumption); omega
            refine a_op rfl (o_pkt rfl rfl) ?_
            refine a_op rfl (o_pkf rfl rfl) ?_
            refine a_nil ?_
            refine tq_n ?_
            refine w_false rfl ?_
            refine awp_skip ?_
            refine bq_n ?_
            refine tq_n ?_
            exact ⟨(), trivial, ⟨rfl, rfl, rfl, rfl, rfl, rfl, rfl, rfl, rfl, rfl, rfl, trivial⟩, rfl⟩
          refine a_op rfl (o_mv rfl) ?_
          refine a_off rfl ?_
          refine a_off rfl ?_
          refine a_off rfl ?_
          refine a_op rfl (o_pkf rfl rfl) ?_
          refine a_op rfl (o_pkf rfl rfl) ?_
          refine a_nil ?_
          refine tq_n ?_
          refine w_false rfl ?_
          refine awp_skip ?_
          refine bq_n ?_
          refine tq_n ?_
          exact ⟨(), trivial, ⟨rfl, rfl, rfl, rfl, rfl, rfl, rfl, rfl, rfl, rfl, rfl, trivial⟩, rfl⟩
        refine a_op rfl (o_mv rfl) ?_
        refine a_off rfl ?_
        refine a_off rfl ?_
        refine a_op rfl (o_pkf rfl rfl) ?_
        refine a_nil ?_
        refine tq_n ?_
        refine w_false rfl ?_
        refine awp_skip ?_
        refine tq_n ?_
        refine awp_seq ?_
        refine w_reg (l := r4_28.toList) rfl r4_28_ok ?_
        refine a_op rfl ((by first | exact o_fa tf39_2 rfl rfl | exact o_fap tf39_2 rfl rfl)) ?_
        refine a_op rfl ((by first | exact o_ld tg3 rfl rfl | exact o_ldp tg3 rfl rfl rfl rfl)) ?_
        refine a_if rfl (o_ne rfl rfl) (fun h177 => ?_) (fun h178 => ?_)
        · refine a_op rfl (o_mv rfl) ?_
          refine a_op rfl (o_mv rfl) ?_
          refine a_op rfl (o_mv rfl) ?_
          refine a_if rfl (o_ne rfl rfl) (fun h179 => ?_) (fun h180 => ?_)
          · have w4a := w4 (by assumption); omega
          refine a_op rfl (o_pkt rfl rfl) ?_
          refine a_op rfl (o_mv rfl) ?_
          refine a_op rfl ((by first | exact o_fa tf39_2 rfl rfl | exact o_fap tf39_2 rfl rfl)) ?_
          refine a_op rfl ((by first | exact o_ld tg3 rfl rfl | exact o_ldp tg3 rfl rfl rfl rfl)) ?_
          refine a_if rfl (o_eq rfl rfl) (fun h181 => ?_) (fun h182 => ?_)
          · refine a_op rfl (o_mv rfl) ?_
            refine a_op rfl (o_mv rfl) ?_
            refine a_if rfl (o_eq rfl rfl) (fun h183 => ?_) (fun h184 => ?_)
            · have w5a := w5 (by assumption); omega
            refine a_op rfl (o_pkt rfl rfl) ?_
            refine a_op rfl (o_pkf rfl rfl) ?_
            refine a_op rfl (o_mv rfl) ?_
            refine a_op rfl (o_mv rfl) ?_
            refine a_if rfl (o_eq rfl rfl) (fun h185 => ?_) (fun h186 => ?_)
            · refine a_op rfl (o_mv rfl) ?_
              refine a_op rfl (o_mv rfl) ?_
              refine a_op rfl (o_mv rfl) ?_
              refine a_if rfl (o_ne rfl rfl) (fun h187 => ?_) (fun h188 => ?_)
              · have w6a := w6 (by assumption); omega
              refine a_op rfl (o_pkt rfl rfl) ?_
              refine a_op rfl (o_pkf rfl rfl) ?_
              refine a_nil ?_
              refine tq_n ?_
              refine w_false rfl ?_
              refine awp_skip ?_
              refine bq_n ?_
              refine tq_n ?_
              exact ⟨(), trivial, ⟨rfl, rfl, rfl, rfl, rfl, rfl, rfl, rfl, rfl, rfl, rfl, trivial⟩, rfl⟩
            refine a_op rfl (o_mv rfl) ?_
            refine a_off rfl ?_
            refine a_off rfl ?_
            refine a_off rfl ?_
            refine a_op rfl (o_pkf rfl rfl) ?_
            refine a_op rfl (o_pkf rfl rfl) ?_
            refine a_nil ?_
            refine tq_n ?_
            refine w_false rfl ?_
            refine awp_skip ?_
            refine bq_n ?_
            refine tq_n ?_
            exact ⟨(), trivial, ⟨rfl, rfl, rfl, rfl, rfl, rfl, rfl, rfl, rfl, rfl, rfl, trivial⟩, rfl⟩
          refine a_op rfl (o_mv rfl) ?_
          refine a_off rfl ?_
          refine a_off rfl ?_
          refine a_op rfl (o_pkf rfl rfl) ?_
          refine a_op rfl (o_pkf rfl rfl) ?_
          refine a_op rfl (o_mv rfl) ?_
          refine a_op rfl (o_mv rfl) ?_
          refine a_if rfl (o_eq rfl rfl) (fun h189 => ?_) (fun h190 => ?_)
          · refine a_op rfl (o_mv rfl) ?_
            refine a_op rfl (o_mv rfl) ?_
            refine a_op rfl (o_mv rfl) ?_
            refine a_if rfl (o_ne rfl rfl) (fun h191 => ?_) (fun h192 => ?_)
            · have w6a := w6 (by assumption); omega
            refine a_op rfl (o_pkt rfl rfl) ?_
            refine a_op rfl (o_pkf rfl rfl) ?_
            refine a_nil ?_
            refine tq_n ?_
            refine w_false rfl ?_
            refine awp_skip ?_
            refine bq_n ?_
            refine tq_n ?_
            exact ⟨(), trivial, ⟨rfl, rfl, rfl, rfl, rfl, rfl, rfl, rfl, rfl, rfl, rfl, trivial⟩, rfl⟩
          refine a_op rfl (o_mv rfl) ?_
          refine a_off rfl ?_
          refine a_off rfl ?_
          refine a_off rfl ?_
          refine a_op rfl (o_pkf rfl rfl) ?_
          refine a_op rfl (o_pkf rfl rfl) ?_
          refine a_nil ?_
          refine tq_n ?_
          refine w_false rfl ?_
          refine awp_skip ?_
          refine bq_n ?_
          refine tq_n ?_
          exact ⟨(), trivial, ⟨rfl, rfl, rfl, rfl, rfl, rfl, rfl, rfl, rfl, rfl, rfl, trivial⟩, rfl⟩
        refine a_op rfl (o_mv rfl) ?_
        refine a_off rfl ?_
        refine a_off rfl ?_
        refine a_off rfl ?_
        refine a_op rfl (o_pkf rfl rfl) ?_
        refine a_op rfl (o_mv rfl) ?_
        refine a_op rfl ((by first | exact o_fa tf39_2 rfl rfl | exact o_fap tf39_2 rfl rfl)) ?_
        refine a_op rfl ((by first | exact o_ld tg3 rfl rfl | exact o_ldp tg3 rfl rfl rfl rfl)) ?_
        refine a_if rfl (o_eq rfl rfl) (fun h193 => ?_) (fun h194 => ?_)
        · refine a_op rfl (o_mv rfl) ?_
          refine a_op rfl (o_mv rfl) ?_
          refine a_if rfl (o_eq rfl rfl) (fun h195 => ?_) (fun h196 => ?_)
          · have w5a := w5 (by assumption); omega
          refine a_op rfl (o_pkt rfl rfl) ?_
          refine a_op rfl (o_pkf rfl rfl) ?_
          refine a_op rfl (o_mv rfl) ?_
          refine a_op rfl (o_mv rfl) ?_
          refine a_if rfl (o_eq rfl rfl) (fun h197 => ?_) (fun h198 => ?_)
          · refine a_op rfl (o_mv rfl) ?_
            refine a_op rfl (o_mv rfl) ?_
            refine a_op rfl (o_mv rfl) ?_
            refine a_if rfl (o_ne rfl rfl) (fun h199 => ?_) (fun h200 => ?_)
            · have w6a := w6 (by assumption); omega
            refine a_op rfl (o_pkt rfl rfl) ?_
            refine a_op rfl (o_pkf rfl rfl) ?_
            refine a_nil ?_
            refine tq_n ?_
            refine w_false rfl ?_
            refine awp_skip ?_
            refine bq_n ?_
            refine tq_n ?_
            exact ⟨(), trivial, ⟨rfl, rfl, rfl, rfl, rfl, rfl, rfl, rfl, rfl, rfl, rfl, trivial⟩, rfl⟩
          refine a_op rfl (o_mv rfl) ?_
          refine a_off rfl ?_
          refine a_off rfl ?_
          refine a_off rfl ?_
          refine a_op rfl (o_pkf rfl rfl) ?_
          refine a_op rfl (o_pkf rfl rfl) ?_
          refine a_nil ?_
          refine tq_n ?_
          refine w_false rfl ?_
          refine awp_skip ?_
          refine bq_n ?_
          refine tq_n ?_
          exact ⟨(), trivial, ⟨rfl, rfl, rfl, rfl, rfl, rfl, rfl, rfl, rfl, rfl, rfl, trivial⟩, rfl⟩
        refine a_op rfl (o_mv rfl) ?_
        refine a_off rfl ?_
        refine a_off rfl ?_
        refine a_op rfl (o_pkf rfl rfl) ?_
        refine a_op rfl (o_pkf rfl rfl) ?_
        refine a_op rfl (o_mv rfl) ?_
        refine a_op rfl (o_mv rfl) ?_
        refine a_if rfl (o_eq rfl rfl) (fun h201 => ?_) (fun h202 => ?_)
        · refine a_op rfl (o_mv rfl) ?_
          refine a_op rfl (o_mv rfl) ?_
          refine a_op rfl (o_mv rfl) ?_
          refine a_if rfl (o_ne rfl rfl) (fun h203 => ?_) (fun h204 => ?_)
          · have w6a := w6 (by assumption); omega
          refine a_op rfl (o_pkt rfl rfl) ?_
          refine a_op rfl (o_pkf rfl rfl) ?_
          refine a_nil ?_
          refine tq_n ?_
          refine w_false rfl ?_
          refine awp_skip ?_
          refine bq_n ?_
          refine tq_n ?_
          exact ⟨(), trivial, ⟨rfl, rfl, rfl, rfl, rfl, rfl, rfl, rfl, rfl, rfl, rfl, trivial⟩, rfl⟩
        refine a_op rfl (o_mv rfl) ?_
        refine a_off rfl ?_
        refine a_off rfl ?_
        refine a_off rfl ?_
        refine a_op rfl (o_pkf rfl rfl) ?_
        refine a_op rfl (o_pkf rfl rfl) ?_
        refine a_nil ?_
        refine tq_n ?_
        refine w_false rfl ?_
        refine awp_skip ?_
        refine bq_n ?_
        refine tq_n ?_
        exact ⟨(), trivial, ⟨rfl, rfl, rfl, rfl, rfl, rfl, rfl, rfl, rfl, rfl, rfl, trivial⟩, rfl⟩
      refine a_op rfl (o_mv rfl) ?_
      refine a_off rfl ?_
      refine a_off rfl ?_
      refine a_off rfl ?_
      refine a_op rfl (o_pkf rfl rfl) ?_
      refine a_nil ?_
      refine tq_n ?_
      refine w_false rfl ?_
      refine awp_skip ?_
      refine tq_n ?_
      refine awp_seq ?_
      refine awp_seq ?_
      refine w_reg (l := r4_23.toList) rfl r4_23_ok ?_
      refine a_ifb rfl (o_mv rfl) (fun h205 => ?_) (fun h206 => ?_)
      · refine a_op rfl (o_mv rfl) ?_
        refine a_op rfl ((by first | exact o_fa tf37_1 rfl rfl | exact o_fap tf37_1 rfl rfl)) ?_
        refine a_op rfl ((by first | exact o_ld tg5 rfl rfl | exact o_ldp tg5 rfl rfl rfl rfl)) ?_
        refine a_if rfl (o_ne rfl rfl) (fun h207 => ?_) (fun h208 => ?_)
        · refine a_op rfl (o_pkt rfl rfl) ?_
          refine a_nil ?_
          refine tq_n ?_
          refine w_true rfl ?_
          refine awp_seq ?_
          refine w_reg (l := r4_24.toList) rfl r4_24_ok ?_
          refine a_op rfl (o_mv rfl) ?_
          refine a_if rfl (o_eq rfl rfl) (fun h209 => ?_) (fun h210 => ?_)
          · refine a_op rfl (o_mv rfl) ?_
            refine a_op rfl (o_mv rfl) ?_
            refine a_op rfl (o_mv rfl) ?_
            refine a_if rfl (o_ne rfl rfl) (fun h211 => ?_) (fun h212 => ?_)
            · have w2a := w2 (by assumption) (by assumption) (by assumption); omega
            refine a_op rfl (o_pkt rfl rfl) ?_
            refine a_nil ?_
            refine tq_n ?_
            refine w_false rfl ?_
            refine awp_skip ?_
            refine tq_n ?_
            refine awp_seq ?_
            refine w_reg (l := r4_28.toList) rfl r4_28_ok ?_
            refine a_op rfl ((by first | exact o_fa tf39_2 rfl rfl | exact o_fap tf39_2 rfl rfl)) ?_
            refine a_op rfl ((by first | exact o_ld tg3 rfl rfl | exact o_ldp tg3 rfl rfl rfl rfl)) ?_
            refine a_if rfl (o_ne rfl rfl) (fun h213 => ?_) (fun h214 => ?_)
            · refine a_op rfl (o_mv rfl) ?_
              refine a_op rfl (o_mv rfl) ?_
              refine a_op rfl (o_mv rfl) ?_
              refine a_if rfl (o_ne rfl rfl) (fun h215 => ?_) (fun h216 => ?_)
              · have w4a := w4 (by assumption); omega
              refine a_op rfl (o_pkt rfl rfl) ?_
              refine a_op rfl (o_mv rfl) ?_
              refine a_op rfl ((by first | exact o_fa tf39_2 rfl rfl | exact o_fap tf39_2 rfl rfl)) ?_
              refine a_op rfl ((by first | exact o_ld tg3 rfl rfl | exact o_ldp tg3 rfl rfl rfl rfl)) ?_
              refine a_if rfl (o_eq rfl rfl) (fun h217 => ?_) (fun h218 => ?_)
              · refine a_op rfl (o_mv rfl) ?_
                refine a_op rfl (o_mv rfl) ?_
                refine a_if rfl (o_eq rfl rfl) (fun h219 => ?_) (fun h220 => ?_)
                · have w5a := w5 (by assumption); omega
                refine a_op rfl (o_pkt rfl rfl) ?_
                refine a_op rfl (o_pkf rfl rfl) ?_
                refine a_op rfl (o_mv rfl) ?_
                refine a_op rfl (o_mv rfl) ?_
                refine a_if rfl (o_eq rfl rfl) (fun h221 => ?_) (fun h222 => ?_)
                · refine a_op rfl (o_mv rfl) ?_
                  refine a_op rfl (o_mv rfl) ?_
                  refine a_op rfl (o_mv rfl) ?_
                  refine a_if rfl (o_ne rfl rfl) (fun h223 => ?_) (fun h224 => ?_)
                  · have w6a := w6 (by assumption); omega
                  refine a_op rfl (o_pkt rfl rfl) ?_
                  refine a_op rfl (o_pkf rfl rfl) ?_
                  refine a_nil ?_
                  refine tq_n ?_
                  refine w_false rfl ?_
                  refine awp_skip ?_
                  refine bq_n ?_
                  refine tq_n ?_
                  exact ⟨(), trivial, ⟨rfl, rfl, rfl, rfl, rfl, rfl, rfl, rfl, rfl, rfl, rfl, trivial⟩, rfl⟩
                refine a_op rfl (o_mv rfl) ?_
                refine a_off rfl ?_
                refine a_off rfl ?_
                refine a_off rfl ?_
                refine a_op rfl (o_pkf rfl rfl) ?_
                refine a_op rfl (o_pkf rfl rfl) ?_
                refine a_nil ?_
                refine tq_n ?_
                refine w_false rfl ?_
                refine awp_skip ?_
                refine bq_n ?_
                refine tq_n ?_
                exact ⟨(), trivial, ⟨rfl, rfl, rfl, rfl, rfl, rfl, rfl, rfl, rfl, rfl, rfl, trivial⟩, rfl⟩
              refine a_op rfl (o_mv rfl) ?_
              refine a_off rfl ?_
              refine a_off rfl ?_
              refine a_op rfl (o_pkf rfl rfl) ?_
              refine a_op rfl (o_pkf rfl rfl) ?_
              refine a_op rfl (o_mv rfl) ?_
              refine a_op rfl (o_mv rfl) ?_
              refine a_if rfl (o_eq rfl rfl) (fun h225 => ?_) (fun h226 => ?_)
              · refine a_op rfl (o_mv rfl) ?_
                refine a_op rfl (o_mv rfl) ?_
                refine a_op rfl (o_mv rfl) ?_
                refine a_if rfl (o_ne rfl rfl) (fun h227 => ?_) (fun h228 => ?_)
                · have w6a := w6 (by assumption); omega
                refine a_op rfl (o_pkt rfl rfl) ?_
                refine a_op rfl (o_pkf rfl rfl) ?_
                refine a_nil ?_
                refine tq_n ?_
                refine w_false rfl ?_
                refine awp_skip ?_
                refine bq_n ?_
                refine tq_n ?_
                exact ⟨(), trivial, ⟨rfl, rfl, rfl, rfl, rfl, rfl, rfl, rfl, rfl, rfl, rfl, trivial⟩, rfl⟩
              refine a_op rfl (o_mv rfl) ?_
              refine a_off rfl ?_
              refine a_off rfl ?_
              refine a_off rfl ?_
              refine a_op rfl (o_pkf rfl rfl) ?_
              refine a_op rfl (o_pkf rfl rfl) ?_
              refine a_nil ?_
              refine tq_n ?_
              refine w_false rfl ?_
              refine awp_skip ?_
              refine bq_n ?_
              refine tq_n ?_
              exact ⟨(), trivial, ⟨rfl, rfl, rfl, rfl, rfl, rfl, rfl, rfl, rfl, rfl, rfl, trivial⟩, rfl⟩
            refine a_op rfl (o_mv rfl) ?_
            refine a_off rfl ?_
            refine a_off rfl ?_
            refine a_off rfl ?_
            refine a_op rfl (o_pkf rfl rfl) ?_
            refine a_op rfl (o_mv rfl) ?_
            refine a_op rfl ((by first | exact o_fa tf39_2 rfl rfl | exact o_fap tf39_2 rfl rfl)) ?_
            refine a_op rfl ((by first | exact o_ld tg3 rfl rfl | exact o_ldp tg3 rfl rfl rfl rfl)) ?_
            refine a_if rfl (o_eq rfl rfl) (fun h229 => ?_) (fun h230 => ?_)
            · refine a_op rfl (o_mv rfl) ?_
              refine a_op rfl (o_mv rfl) ?_
              refine a_if rfl (o_eq rfl rfl) (fun h231 => ?_) (fun h232 => ?_)
              · have w5a := w5 (by assumption); omega
              refine a_op rfl (o_pkt rfl rfl) ?_
              refine a_op rfl (o_pkf rfl rfl) ?_
              refine a_op rfl (o_mv rfl) ?_
              refine a_op rfl (o_mv rfl) ?_
              refine a_if rfl (o_eq rfl rfl) (fun h233 => ?_) (fun h234 => ?_)
              · refine a_op rfl (o_mv rfl) ?_
                refine a_op rfl (o_mv rfl) ?_
                refine a_op rfl (o_mv rfl) ?_
                refine a_if rfl (o_ne rfl rfl) (fun h235 => ?_) (fun h236 => ?_)
                · have w6a := w6 (by assumption); omega
                refine a_op rfl (o_pkt rfl rfl) ?_
                refine a_op rfl (o_pkf rfl rfl) ?_
                refine a_nil ?_
                refine tq_n ?_
                refine w_false rfl ?_
                refine awp_skip ?_
                refine bq_n ?_
                refine tq_n ?_
                exact ⟨(), trivial, ⟨rfl, rfl, rfl, rfl, rfl, rfl, rfl, rfl, rfl, rfl, rfl, trivial⟩, rfl⟩
              refine a_op rfl (o_mv rfl) ?_
              refine a_off rfl ?_
              refine a_off rfl ?_
              refine a_off rfl ?_
              refine a_op rfl (o_pkf rfl rfl) ?_
              refine a_op rfl (o_pkf rfl rfl) ?_
              refine a_nil ?_
              refine tq_n ?_
              refine w_false rfl ?_
              refine awp_skip ?_
              refine bq_n ?_
              refine tq_n ?_
              exact ⟨(), trivial, ⟨rfl, rfl, rfl, rfl, rfl, rfl, rfl, rfl, rfl, rfl, rfl, trivial⟩, rfl⟩
            refine a_op rfl (o_mv rfl) ?_
            refine a_off rfl ?_
            refine a_off rfl ?_
            refine a_op rfl (o_pkf rfl rfl) ?_
            refine a_op rfl (o_pkf rfl rfl) ?_
            refine a_op rfl (o_mv rfl) ?_
            refine a_op rfl (o_mv rfl) ?_
            refine a_if rfl (o_eq rfl rfl) (fun h237 => ?_) (fun h238 => ?_)
            · refine a_op rfl (o_mv rfl) ?_
              refine a_op rfl (o_mv rfl) ?_
              refine a_op rfl (o_mv rfl) ?_
              refine a_if rfl (o_ne rfl rfl) (fun h239 => ?_) (fun h240 => ?_)
              · have w6a := w6 (by assumption); omega
              refine a_op rfl (o_pkt rfl rfl) ?_
              refine a_op rfl (o_pkf rfl rfl) ?_
              refine a_nil ?_
              refine tq_n ?_
              refine w_false rfl ?_
              refine awp_skip ?_
              refine bq_n ?_
              refine tq_n ?_
              exact ⟨(), trivial, ⟨rfl, rfl, rfl, rfl, rfl, rfl, rfl, rfl, rfl, rfl, rfl, trivial⟩, rfl⟩
            refine a_op rfl (o_mv rfl) ?_
            refine a_off rfl ?_
            refine a_off rfl ?_
            refine a_off rfl ?_
            refine a_op rfl (o_pkf rfl rfl) ?_
            refine a_op rfl (o_pkf rfl rfl) ?_
            refine a_nil ?_
            refine tq_n ?_
            refine w_false rfl ?_
            refine awp_skip ?_
            refine bq_n ?_
            refine tq_n ?_
            exact ⟨(), trivial, ⟨rfl, rfl, rfl, rfl, rfl, rfl, rfl, rfl, rfl, rfl, rfl, trivial⟩, rfl⟩
          refine a_op rfl (o_mv rfl) ?_
          refine a_off rfl ?_
          refine a_off rfl ?_
          refine a_off rfl ?_
          refine a_op rfl (o_pkf rfl rfl) ?_
          refine a_nil ?_
          refine tq_n ?_
          refine w_false rfl ?_
          refine awp_skip ?_
          refine tq_n ?_
          refine awp_seq ?_
          refine w_reg (l := r4_28.toList) rfl r4_28_ok ?_
          refine a_op rfl ((by first | exact o_fa tf39_2 rfl rfl | exact o_fap tf39_2 rfl rfl)) ?_
          refine a_op rfl ((by first | exact o_ld tg3 rfl rfl | exact o_ldp tg3 rfl rfl rfl rfl)) ?_
          refine a_if rfl (o_ne rfl rfl) (fun h241 => ?_) (fun h242 => ?_)
          · refine a_op rfl (o_mv rfl) ?_
            refine a_op rfl (o_mv rfl) ?_
            refine a_op rfl (o_mv rfl) ?_
            refine a_if rfl (o_ne rfl rfl) (fun h243 => ?_) (fun h244 => ?_)
            · have w4a := w4 (by assumption); omega
            refine a_op rfl (o_pkt rfl rfl) ?_
            refine a_op rfl (o_mv rfl) ?_
            refine a_op rfl ((by first | exact o_fa tf39_2 rfl rfl | exact o_fap tf39_2 rfl rfl)) ?_
            refine a_op rfl ((by first | exact o_ld tg3 rfl rfl | exact o_ldp tg3 rfl rfl rfl rfl)) ?_
            refine a_if rfl (o_eq rfl rfl) (fun h245 => ?_) (fun h246 => ?_)
            · refine a_op rfl (o_mv rfl) ?_
              refine a_op rfl (o_mv rfl) ?_
              refine a_if rfl (o_eq rfl rfl) (fun h247 => ?_) (fun h248 => ?_)
              · have w5a := w5 (by assumption); omega
              refine a_op rfl (o_pkt rfl rfl) ?_
              refine a_op rfl (o_pkf rfl rfl) ?_
              refine a_op rfl (o_mv rfl) ?_
              refine a_op rfl (o_mv rfl) ?_
              refine a_if rfl (o_eq rfl rfl) (fun h249 => ?_) (fun h250 => ?_)
              · refine a_op rfl (o_mv rfl) ?_
                refine a_op rfl (o_mv rfl) ?_
                refine a_op rfl (o_mv rfl) ?_
                refine a_if rfl (o_ne rfl rfl) (fun h251 => ?_) (fun h252 => ?_)
                · have w6a := w6 (by assumption); omega
                refine a_op rfl (o_pkt rfl rfl) ?_
                refine a_op rfl (o_pkf rfl rfl) ?_
                refine a_nil ?_
                refine tq_n ?_
                refine w_false rfl ?_
                refine awp_skip ?_
                refine bq_n ?_
                refine tq_n ?_
                exact ⟨(), trivial, ⟨rfl, rfl, rfl, rfl, rfl, rfl, rfl, rfl, rfl, rfl, rfl, trivial⟩, rfl⟩
              refine a_op rfl (o_mv rfl) ?_
              refine a_off rfl ?_
              refine a_off rfl ?_
              refine a_off rfl ?_
              refine a_op rfl (o_pkf rfl rfl) ?_
              refine a_op rfl (o_pkf rfl rfl) ?_
              refine a_nil ?_
              refine tq_n ?_
              refine w_false rfl ?_
              refine awp_skip ?_
              refine bq_n ?_
              refine tq_n ?_
              exact ⟨(), trivial, ⟨rfl, rfl, rfl, rfl, rfl, rfl, rfl, rfl, rfl, rfl, rfl, trivial⟩, rfl⟩
            refine a_op rfl (o_mv rfl) ?_
            refine a_off rfl ?_
            refine a_off rfl ?_
            refine a_op rfl (o_pkf rfl rfl) ?_
            refine a_op rfl (o_pkf rfl rfl) ?_
            refine a_op rfl (o_mv rfl) ?_
            refine a_op rfl (o_mv rfl) ?_
            refine a_if rfl (o_eq rfl rfl) (fun h253 => ?_) (fun h254 => ?_)
            · refine a_op rfl (o_mv rfl) ?_
              refine a_op rfl (o_mv rfl) ?_
              refine a_op rfl (o_mv rfl) ?_
              refine a_if rfl (o_ne rfl rfl) (fun h255 => ?_) (fun h256 => ?_)
              · have w6a := w6 (by assumption); omega
              refine a_op rfl (o_pkt rfl rfl) ?_
              refine a_op rfl (o_pkf rfl rfl) ?_
              refine a_nil ?_
              refine tq_n ?_
              refine w_false rfl ?_
              refine awp_skip ?_
              refine bq_n ?_
              refine tq_n ?_
              exact ⟨(), trivial, ⟨rfl, rfl, rfl, rfl, rfl, rfl, rfl, rfl, rfl, rfl, rfl, trivial⟩, rfl⟩
            refine a_op rfl (o_mv rfl) ?_
            refine a_off rfl ?_
            refine a_off rfl ?_
            refine a_off rfl ?_
            refine a_op rfl (o_pkf rfl rfl) ?_
            refine a_op rfl (o_pkf rfl rfl) ?_
            refine a_nil ?_
            refine tq_n ?_
            refine w_false rfl ?_
            refine awp_skip ?_
            refine bq_n ?_
            refine tq_n ?_
            exact ⟨(), trivial, ⟨rfl, rfl, rfl, rfl, rfl, rfl, rfl, rfl, rfl, rfl, rfl, trivial⟩, rfl⟩
          refine a_op rfl (o_mv rfl) ?_
          refine a_off rfl ?_
          refine a_off rfl ?_
          refine a_off rfl ?_
          refine a_op rfl (o_pkf rfl rfl) ?_
          refine a_op rfl (o_mv rfl) ?_
          refine a_op rfl ((by first | exact o_fa tf39_2 rfl rfl | exact o_fap tf39_2 rfl rfl)) ?_
          refine a_op rfl ((by first | exact o_ld tg3 rfl rfl | exact o_ldp tg3 rfl rfl rfl rfl)) ?_
          refine a_if rfl (o_eq rfl rfl) (fun h257 => ?_) (fun h258 => ?_)
          · refine a_op rfl (o_mv rfl) ?_
            refine a_op rfl (o_mv rfl) ?_
            refine a_if rfl (o_eq rfl rfl) (fun h259 => ?_) (fun h260 => ?_)
            · have w5a := w5 (by assumption); omega
            refine a_op rfl (o_pkt rfl rfl) ?_
            refine a_op rfl (o_pkf rfl rfl) ?_
            refine a_op rfl (o_mv rfl) ?_
            refine a_op rfl (o_mv rfl) ?_
            refine a_if rfl (o_eq rfl rfl) (fun h261 => ?_) (fun h262 => ?_)
            · refine a_op rfl (o_mv rfl) ?_
              refine a_op rfl (o_mv rfl) ?_
              refine a_op rfl (o_mv rfl) ?_
              refine a_if rfl (o_ne rfl rfl) (fun h263 => ?_) (fun h264 => ?_)
              · have w6a := w6 (by assumption); omega
              refine a_op rfl (o_pkt rfl rfl) ?_
              refine a_op rfl (o_pkf rfl rfl) ?_
              refine a_nil ?_
              refine tq_n ?_
              refine w_false rfl ?_
              refine awp_skip ?_
              refine bq_n ?_
              refine tq_n ?_
              exact ⟨(), trivial, ⟨rfl, rfl, rfl, rfl, rfl, rfl, rfl, rfl, rfl, rfl, rfl, trivial⟩, rfl⟩
            refine a_op rfl (o_mv rfl) ?_
            refine a_off rfl ?_
            refine a_off rfl ?_
            refine a_off rfl ?_
            refine a_op rfl (o_pkf rfl rfl) ?_
            refine a_op rfl (o_pkf rfl rfl) ?_
            refine a_nil ?_
            refine tq_n ?_
            refine w_false rfl ?_
            refine awp_skip ?_
            refine bq_n ?_
            refine tq_n ?_
            exact ⟨(), trivial, ⟨rfl, rfl, rfl, rfl, rfl, rfl, rfl, rfl, rfl, rfl, rfl, trivial⟩, rfl⟩
          refine a_op rfl (o_mv rfl) ?_
          refine a_off rfl ?_
          refine a_off rfl ?_
          refine a_op rfl (o_pkf rfl rfl) ?_
          refine a_op rfl (o_pkf rfl rfl) ?_
          refine a_op rfl (o_mv rfl) ?_
          refine a_op rfl (o_mv rfl) ?_
          refine a_if rfl (o_eq rfl rfl) (fun h265 => ?_) (fun h266 => ?_)
          · refine a_op rfl (o_mv rfl) ?_
            refine a_op rfl (o_mv rfl) ?_
            refine a_op rfl (o_mv rfl) ?_
            refine a_if rfl (o_ne rfl rfl) (fun h267 => ?_) (fun h268 => ?_)
            · have w6a := w6 (by assumption); omega
            refine a_op rfl (o_pkt rfl rfl) ?_
            refine a_op rfl (o_pkf rfl rfl) ?_
            refine a_nil ?_
            refine tq_n ?_
            refine w_false rfl ?_
            refine awp_skip ?_
            refine bq_n ?_
            refine tq_n ?_
            exact ⟨(), trivial, ⟨rfl, rfl, rfl, rfl, rfl, rfl, rfl, rfl, rfl, rfl, rfl, trivial⟩, rfl⟩
          refine a_op rfl (o_mv rfl) ?_
          refine a_off rfl ?_
          refine a_off rfl ?_
          refine a_off rfl ?_
          refine a_op rfl (o_pkf rfl rfl) ?_
          refine a_op rfl (o_pkf rfl rfl) ?_
          refine a_nil ?_
          refine tq_n ?_
          refine w_false rfl ?_
          refine awp_skip ?_
          refine bq_n ?_
          refine tq_n ?_
          exact ⟨(), trivial, ⟨rfl, rfl, rfl, rfl, rfl, rfl, rfl, rfl, rfl, rfl, rfl, trivial⟩, rfl⟩
        refine a_op rfl (o_pkt rfl rfl) ?_
        refine a_nil ?_
        refine tq_n ?_
        refine w_false rfl ?_
        refine awp_seq ?_
        refine w_reg (l := r4_26.toList) rfl r4_26_ok ?_
        refine a_op rfl (o_mv rfl) ?_
        refine a_if rfl (o_ne rfl rfl) (fun h269 => ?_) (fun h270 => ?_)
        · refine a_op rfl (o_mv rfl) ?_
          refine a_op rfl (o_mv rfl) ?_
          refine a_if rfl (o_eq rfl rfl) (fun h271 => ?_) (fun h272 => ?_)
          · have w3a := w3 (by first | exact .inl (by assumption) | exact .inr (by omega)) (by assumption); omega
          refine a_op rfl (o_pkt rfl rfl) ?_
          refine a_nil ?_
          refine tq_n ?_
          refine w_false rfl ?_
          refine awp_skip ?_
          refine tq_n ?_
          refine awp_seq ?_
          refine w_reg (l := r4_28.toList) rfl r4_28_ok ?_
          refine a_op rfl ((by first | exact o_fa tf39_2 rfl rfl | exact o_fap tf39_2 rfl rfl)) ?_
          refine a_op rfl ((by first | exact o_ld tg3 rfl rfl | exact o_ldp tg3 rfl rfl rfl rfl)) ?_
          refine a_if rfl (o_ne rfl rfl) (fun h273 => ?_) (fun h274 => ?_)
          · refine a_op rfl (o_mv rfl) ?_
            refine a_op rfl (o_mv rfl) ?_
            refine a_op rfl (o_mv rfl) ?_
            refine a_if rfl (o_ne rfl rfl) (fun h275 => ?_) (fun h276 => ?_)
            · have w4a := w4 (by assumption); omega
            refine a_op rfl (o_pkt rfl rfl) ?_
            refine a_op rfl (o_mv rfl) ?_
            refine a_op rfl ((by first | exact o_fa tf39_2 rfl rfl | exact o_fap tf39_2 rfl rfl)) ?_
            refine a_op rfl ((by first | exact o_ld tg3 rfl rfl | exact o_ldp tg3 rfl rfl rfl rfl)) ?_
            refine a_if rfl (o_eq rfl rfl) (fun h277 => ?_) (fun h278 => ?_)
            · refine a_op rfl (o_mv rfl) ?_
              refine a_op rfl (o_mv rfl) ?_
              refine a_if rfl (o_eq rfl rfl) (fun h279 => ?_) (fun h280 => ?_)
              · have w5a := w5 (by assumption); omega
              refine a_op rfl (o_pkt rfl rfl) ?_
              refine a_op rfl (o_pkf rfl rfl) ?_
              refine a_op rfl (o_mv rfl) ?_
              refine a_op rfl (o_mv rfl) ?_
              refine a_if rfl (o_eq rfl rfl) (fun h281 => ?_) (fun h282 => ?_)
              · refine a_op rfl (o_mv rfl) ?_
                refine a_op rfl (o_mv rfl) ?_
                refine a_op rfl (o_mv rfl) ?_
                refine a_if rfl (o_ne rfl rfl) (fun h283 => ?_) (fun h284 => ?_)
                · have w6a := w6 (by assumption); omega
                refine a_op rfl (o_pkt rfl rfl) ?_
                refine a_op rfl (o_pkf rfl rfl) ?_
                refine a_nil ?_
                refine tq_n ?_
                refine w_false rfl ?_
                refine awp_skip ?_
                refine bq_n ?_
                refine tq_n ?_
                exact ⟨(), trivial, ⟨rfl, rfl, rfl, rfl, rfl, rfl, rfl, rfl, rfl, rfl, rfl, trivial⟩, rfl⟩
              refine a_op rfl (o_mv rfl) ?_
              refine a_off rfl ?_
              refine a_off rfl ?_
              refine a_off rfl ?_
              refine a_op rfl (o_pkf rfl rfl) ?_
              refine a_op rfl (o_pkf rfl rfl) ?_
              refine a_nil ?_
              refine tq_n ?_
              refine w_false rfl ?_
              refine awp_skip ?_
              refine bq_n ?_
              refine tq_n ?_
              exact ⟨(), trivial, ⟨rfl, rfl, rfl, rfl, rfl, rfl, rfl, rfl, rfl, rfl, rfl, trivial⟩, rfl⟩
            refine a_op rfl (o_mv rfl) ?_
            refine a_off rfl ?_
            refine a_off rfl ?_
            refine a_op rfl (o_pkf rfl rfl) ?_
            refine a_op rfl (o_pkf rfl rfl) ?_
            refine a_op rfl (o_mv rfl) ?_
            refine a_op rfl (o_mv rfl) ?_
            refine a_if rfl (o_eq rfl rfl) (fun h285 => ?_) (fun h286 => ?_)
            · refine a_op rfl (o_mv rfl) ?_
              refine a_op rfl (o_mv rfl) ?_
              refine a_op rfl (o_mv rfl) ?_
              refine a_if rfl (o_ne rfl rfl) (fun h287 => ?_) (fun h288 => ?_)
              · have w6a := w6 (by assumption); omega
              refine a_op rfl (o_pkt rfl rfl) ?_
              refine a_op rfl (o_pkf rfl rfl) ?_
              refine a_nil ?_
              refine tq_n ?_
              refine w_false rfl ?_
              refine awp_skip ?_
              refine bq_n ?_
              refine tq_n ?_
              exact ⟨(), trivial, ⟨rfl, rfl, rfl, rfl, rfl, rfl, rfl, rfl, rfl, rfl, rfl, trivial⟩, rfl⟩
            refine a_op rfl (o_mv rfl) ?_
            refine a_off rfl ?_
            refine a_off rfl ?_
            refine a_off rfl ?_
            refine a_op rfl (o_pkf rfl rfl) ?_
            refine a_op rfl (o_pkf rfl rfl) ?_
            refine a_nil ?_
            refine tq_n ?_
            refine w_false rfl ?_
            refine awp_skip ?_
            refine bq_n ?_
            refine tq_n ?_
            exact ⟨(), trivial, ⟨rfl, rfl, rfl, rfl, rfl, rfl, rfl, rfl, rfl, rfl, rfl, trivial⟩, rfl⟩
          refine a_op rfl (o_mv rfl) ?_
          refine a_off rfl ?_
          refine a_off rfl ?_
          refine a_off rfl ?_
          refine a_op rfl (o_pkf rfl rfl) ?_
          refine a_op rfl (o_mv rfl) ?_
          refine a_op rfl ((by first | exact o_fa tf39_2 rfl rfl | exact o_fap tf39_2 rfl rfl)) ?_
          refine a_op rfl ((by first | exact o_ld tg3 rfl rfl | exact o_ldp tg3 rfl rfl rfl rfl)) ?_
          refine a_if rfl (o_eq rfl rfl) (fun h289 => ?_) (fun h290 => ?_)
          · refine a_op rfl (o_mv rfl) ?_
            refine a_op rfl (o_mv rfl) ?_
            refine a_if rfl (o_eq rfl rfl) (fun h291 => ?_) (fun h292 => ?_)
            · have w5a := w5 (by assumption); omega
            refine a_op rfl (o_pkt rfl rfl) ?_
            refine a_op rfl (o_pkf rfl rfl) ?_
            refine a_op rfl (o_mv rfl) ?_
            refine a_op rfl (o_mv rfl) ?_
            refine a_if rfl (o_eq rfl rfl) (fun h293 => ?_) (fun h294 => ?_)
            · refine a_op rfl (o_mv rfl) ?_
              refine a_op rfl (o_mv rfl) ?_
              refine a_op rfl (o_mv rfl) ?_
              refine a_if rfl (o_ne rfl rfl) (fun h295 => ?_) (fun h296 => ?_)
              · have w6a := w6 (by assumption); omega
              refine a_op rfl (o_pkt rfl rfl) ?_
              refine a_op rfl (o_pkf rfl rfl) ?_
              refine a_nil ?_
              refine tq_n ?_
              refine w_false rfl ?_
              refine awp_skip ?_
              refine bq_n ?_
              refine tq_n ?_
              exact ⟨(), trivial, ⟨rfl, rfl, rfl, rfl, rfl, rfl, rfl, rfl, rfl, rfl, rfl, trivial⟩, rfl⟩
            refine a_op rfl (o_mv rfl) ?_
            refine a_off rfl ?_
            refine a_off rfl ?_
            refine a_off rfl ?_
            refine a_op rfl (o_pkf rfl rfl) ?_
            refine a_op rfl (o_pkf rfl rfl) ?_
            refine a_nil ?_
            refine tq_n ?_
            refine w_false rfl ?_
            refine awp_skip ?_
            refine bq_n ?_
            refine tq_n ?_
            exact ⟨(), trivial, ⟨rfl, rfl, rfl, rfl, rfl, rfl, rfl, rfl, rfl, rfl, rfl, trivial⟩, rfl⟩
          refine a_op rfl (o_mv rfl) ?_
          refine a_off rfl ?_
          refine a_off rfl ?_
          refine a_op rfl (o_pkf rfl rfl) ?_
          refine a_op rfl (o_pkf rfl rfl) ?_
          refine a_op rfl (o_mv rfl) ?_
          refine a_op rfl (o_mv rfl) ?_
          refine a_if rfl (o_eq rfl rfl) (fun h297 => ?_) (fun h298 => ?_)
          · refine a_op rfl (o_mv rfl) ?_
            refine a_op rfl (o_mv rfl) ?_
            refine a_op rfl (o_mv rfl) ?_
            refine a_if rfl (o_ne rfl rfl) (fun h299 => ?_) (fun h300 => ?_)
            · have w6a := w6 (by assumption); omega
            refine a_op rfl (o_pkt rfl rfl) ?_
            refine a_op rfl (o_pkf rfl rfl) ?_
            refine a_nil ?_
            refine tq_n ?_
            refine w_false rfl ?_
            refine awp_skip ?_
            refine bq_n ?_
            refine tq_n ?_
            exact ⟨(), trivial, ⟨rfl, rfl, rfl, rfl, rfl, rfl, rfl, rfl, rfl, rfl, rfl, trivial⟩, rfl⟩
          refine a_op rfl (o_mv rfl) ?_
          refine a_off rfl ?_
          refine a_off rfl ?_
          refine a_off rfl ?_
          refine a_op rfl (o_pkf rfl rfl) ?_
          refine a_op rfl (o_pkf rfl rfl) ?_
          refine a_nil ?_
          refine tq_n ?_
          refine w_false rfl ?_
          refine awp_skip ?_
          refine bq_n ?_
          refine tq_n ?_
          exact ⟨(), trivial, ⟨rfl, rfl, rfl, rfl, rfl, rfl, rfl, rfl, rfl, rfl, rfl, trivial⟩, rfl⟩
        refine a_op rfl (o_mv rfl) ?_
        refine a_off rfl ?_
        refine a_off rfl ?_
        refine a_op rfl (o_pkf rfl rfl) ?_
        refine a_nil ?_
        refine tq_n ?_
        refine w_false rfl ?_
        refine awp_skip ?_
        refine tq_n ?_
        refine awp_seq ?_
        refine w_reg (l := r4_28.toList) rfl r4_28_ok ?_
        refine a_op rfl ((by first | exact o_fa tf39_2 rfl rfl | exact o_fap tf39_2 rfl rfl)) ?_
        refine a_op rfl ((by first | exact o_ld tg3 rfl rfl | exact o_ldp tg3 rfl rfl rfl rfl)) ?_
        refine a_if rfl (o_ne rfl rfl) (fun h301 => ?_) (fun h302 => ?_)
        · refine a_op rfl (o_mv rfl) ?_
          refine a_op rfl (o_mv rfl) ?_
          refine a_op rfl (o_mv rfl) ?_
          refine a_if rfl (o_ne rfl rfl) (fun h303 => ?_) (fun h304 => ?_)
          · have w4a := w4 (by assumption); omega
          refine a_op rfl (o_pkt rfl rfl) ?_
          refine a_op rfl (o_mv rfl) ?_
          refine a_op rfl ((by first | exact o_fa tf39_2 rfl rfl | exact o_fap tf39_2 rfl rfl)) ?_
          refine a_op rfl ((by first | exact o_ld tg3 rfl rfl | exact o_ldp tg3 rfl rfl rfl rfl)) ?_
          refine a_if rfl (o_eq rfl rfl) (fun h305 => ?_) (fun h306 => ?_)
          · refine a_op rfl (o_mv rfl) ?_
            refine a_op rfl (o_mv rfl) ?_
            refine a_if rfl (o_eq rfl rfl) (fun h307 => ?_) (fun h308 => ?_)
            · have w5a := w5 (by assumption); omega
            refine a_op rfl (o_pkt rfl rfl) ?_
            refine a_op rfl (o_pkf rfl rfl) ?_
            refine a_op rfl (o_mv rfl) ?_
            refine a_op rfl (o_mv rfl) ?_
            refine a_if rfl (o_eq rfl rfl) (fun h309 => ?_) (fun h310 => ?_)
            · refine a_op rfl (o_mv rfl) ?_
              refine a_op rfl (o_mv rfl) ?_
              refine a_op rfl (o_mv rfl) ?_
              refine a_if rfl (o_ne rfl rfl) (fun h311 => ?_) (fun h312 => ?_)
              · have w6a := w6 (by assumption); omega
              refine a_op rfl (o_pkt rfl rfl) ?_
              refine a_op rfl (o_pkf rfl rfl) ?_
              refine a_nil ?_
              refine tq_n ?_
              refine w_false rfl ?_
              refine awp_skip ?_
              refine bq_n ?_
              refine tq_n ?_
              exact ⟨(), trivial, ⟨rfl, rfl, rfl, rfl, rfl, rfl, rfl, rfl, rfl, rfl, rfl, trivial⟩, rfl⟩
            refine a_op rfl (o_mv rfl) ?_
            refine a_off rfl ?_
            refine a_off rfl ?_
            refine a_off rfl ?_
            refine a_op rfl (o_pkf rfl rfl) ?_
            refine a_op rfl (o_pkf rfl rfl) ?_
            refine a_nil ?_
            refine tq_n ?_
            refine w_false rfl ?_
            refine awp_skip ?_
            refine bq_n ?_
            refine tq_n ?_
            exact ⟨(), trivial, ⟨rfl, rfl, rfl, rfl, rfl, rfl, rfl, rfl, rfl, rfl, rfl, trivial⟩, rfl⟩
          refine a_op rfl (o_mv rfl) ?_
          refine a_off rfl ?_
          refine a_off rfl ?_
          refine a_op rfl (o_pkf rfl rfl) ?_
          refine a_op rfl (o_pkf rfl rfl) ?_
          refine a_op rfl (o_mv rfl) ?_
          refine a_op rfl (o_mv rfl) ?_
          refine a_if rfl (o_eq rfl rfl) (fun h313 => ?_) (fun h314 => ?_)
          · refine a_op rfl (o_mv rfl) ?_
            refine a_op rfl (o_mv rfl) ?_
            refine a_op rfl (o_mv rfl) ?_
            refine a_if rfl (o_ne rfl rfl) (fun h315 => ?_) (fun h316 => ?_)
            · have w6a := w6 (by assumption); omega
            refine a_op rfl (o_pkt rfl rfl) ?_
            refine a_op rfl (o_pkf rfl rfl) ?_
            refine a_nil ?_
            refine tq_n ?_
            refine w_false rfl ?_
            refine awp_skip ?_
            refine bq_n ?_
            refine tq_n ?_
            exact ⟨(), trivial, ⟨rfl, rfl, rfl, rfl, rfl, rfl, rfl, rfl, rfl, rfl, rfl, trivial⟩, rfl⟩
          refine a_op rfl (o_mv rfl) ?_
          refine a_off rfl ?_
          refine a_off rfl ?_
          refine a_off rfl ?_
          refine a_op rfl (o_pkf rfl rfl) ?_
          refine a_op rfl (o_pkf rfl rfl) ?_
          refine a_nil ?_
          refine tq_n ?_
          refine w_false rfl ?_
          refine awp_skip ?_
          refine bq_n ?_
          refine tq_n ?_
          exact ⟨(), trivial, ⟨rfl, rfl, rfl, rfl, rfl, rfl, rfl, rfl, rfl, rfl, rfl, trivial⟩, rfl⟩
        refine a_op rfl (o_mv rfl) ?_
        refine a_off rfl ?_
        refine a_off rfl ?_
        refine a_off rfl ?_
        refine a_op rfl (o_pkf rfl rfl) ?_
        refine a_op rfl (o_mv rfl) ?_
        refine a_op rfl ((by first | exact o_fa tf39_2 rfl rfl | exact o_fap tf39_2 rfl rfl)) ?_
        refine a_op rfl ((by first | exact o_ld tg3 rfl rfl | exact o_ldp tg3 rfl rfl rfl rfl)) ?_
        refine a_if rfl (o_eq rfl rfl) (fun h317 => ?_) (fun h318 => ?_)
        · refine a_op rfl (o_mv rfl) ?_
          refine a_op rfl (o_mv rfl) ?_
          refine a_if rfl (o_eq rfl rfl) (fun h319 => ?_) (fun h320 => ?_)
          · have w5a := w5 (by assumption); omega
          refine a_op rfl (o_pkt rfl rfl) ?_
          refine a_op rfl (o_pkf rfl rfl) ?_
          refine a_op rfl (o_mv rfl) ?_
          refine a_op rfl (o_mv rfl) ?_
          refine a_if rfl (o_eq rfl rfl) (fun h321 => ?_) (fun h322 => ?_)
          · refine a_op rfl (o_mv rfl) ?_
            refine a_op rfl (o_mv rfl) ?_
            refine a_op rfl (o_mv rfl) ?_
            refine a_if rfl (o_ne rfl rfl) (fun h323 => ?_) (fun h324 => ?_)
            · have w6a := w6 (by assumption); omega
            refine a_op rfl (o_pkt rfl rfl) ?_
            refine a_op rfl (o_pkf rfl rfl) ?_
            refine a_nil ?_
            refine tq_n ?_
            refine w_false rfl ?_
            refine awp_skip ?_
            refine bq_n ?_
            refine tq_n ?_
            exact ⟨(), trivial, ⟨rfl, rfl, rfl, rfl, rfl, rfl, rfl, rfl, rfl, rfl, rfl, trivial⟩, rfl⟩
          refine a_op rfl (o_mv rfl) ?_
          refine a_off rfl ?_
          refine a_off rfl ?_
          refine a_off rfl ?_
          refine a_op rfl (o_pkf rfl rfl) ?_
          refine a_op rfl (o_pkf rfl rfl) ?_
          refine a_nil ?_
          refine tq_n ?_
          refine w_false rfl ?_
          refine awp_skip ?_
          refine bq_n ?_
          refine tq_n ?_
          exact ⟨(), trivial, ⟨rfl, rfl, rfl, rfl, rfl, rfl, rfl, rfl, rfl, rfl, rfl, trivial⟩, rfl⟩
        refine a_op rfl (o_mv rfl) ?_
        refine a_off rfl ?_
        refine a_off rfl ?_
        refine a_op rfl (o_pkf rfl rfl) ?_
        refine a_op rfl (o_pkf rfl rfl) ?_
        refine a_op rfl (o_mv rfl) ?_
        refine a_op rfl (o_mv rfl) ?_
        refine a_if rfl (o_eq rfl rfl) (fun h325 => ?_) (fun h326 => ?_)
        · refine a_op rfl (o_mv rfl) ?_
          refine a_op rfl (o_mv rfl) ?_
          refine a_op rfl (o_mv rfl) ?_
          refine a_if rfl (o_ne rfl rfl) (fun h327 => ?_) (fun h328 => ?_)
          · have w6a := w6 (by assumption); omega
          refine a_op rfl (o_pkt rfl rfl) ?_
          refine a_op rfl (o_pkf rfl rfl) ?_
          refine a_nil ?_
          refine tq_n ?_
          refine w_false rfl ?_
          refine awp_skip ?_
          refine bq_n ?_
          refine tq_n ?_
          exact ⟨(), trivial, ⟨rfl, rfl, rfl, rfl, rfl, rfl, rfl, rfl, rfl, rfl, rfl, trivial⟩, rfl⟩
        refine a_op rfl (o_mv rfl) ?_
        refine a_off rfl ?_
        refine a_off rfl ?_
        refine a_off rfl ?_
        refine a_op rfl (o_pkf rfl rfl) ?_
        refine a_op rfl (o_pkf rfl rfl) ?_
        refine a_nil ?_
        refine tq_n ?_
        refine w_false rfl ?_
        refine awp_skip ?_
        refine bq_n ?_
        refine tq_n ?_
        exact ⟨(), trivial, ⟨rfl, rfl, rfl, rfl, rfl, rfl, rfl, rfl, rfl, rfl, rfl, trivial⟩, rfl⟩
      refine a_op rfl (o_mv rfl) ?_
      refine a_off rfl ?_
      refine a_off rfl ?_
      refine a_off rfl ?_
      refine a_op rfl (o_pkf rfl rfl) ?_
      refine a_nil ?_
      refine tq_n ?_
      refine w_false rfl ?_
      refine awp_seq ?_
      refine w_reg (l := r4_26.toList) rfl r4_26_ok ?_
      refine a_op rfl (o_mv rfl) ?_
      refine a_if rfl (o_ne rfl rfl) (fun h329 => ?_) (fun h330 => ?_)
      · refine a_op rfl (o_mv rfl) ?_
        refine a_op rfl (o_mv rfl) ?_
        refine a_if rfl (o_eq rfl rfl) (fun h331 => ?_) (fun h332 => ?_)
        · have w3a := w3 (by first | exact .inl (by assumption) | exact .inr (by omega)) (by assumption); omega
        refine a_op rfl (o_pkt rfl rfl) ?_
        refine a_nil ?_
        refine tq_n ?_
        refine w_false rfl ?_
        refine awp_skip ?_
        refine tq_n ?_
        refine awp_seq ?_
        refine w_reg (l := r4_28.toList) rfl r4_28_ok ?_
        refine a_op rfl ((by first | exact o_fa tf39_2 rfl rfl | exact o_fap tf39_2 rfl rfl)) ?_
        refine a_op rfl ((by first | exact o_ld tg3 rfl rfl | exact o_ldp tg3 rfl rfl rfl rfl)) ?_
        refine a_if rfl (o_ne rfl rfl) (fun h333 => ?_) (fun h334 => ?_)
        · refine a_op rfl (o_mv rfl) ?_
          refine a_op rfl (o_mv rfl) ?_
          refine a_op rfl (o_mv rfl) ?_
          refine a_if rfl (o_ne rfl rfl) (fun h335 => ?_) (fun h336 => ?_)
          · have w4a := w4 (by assumption); omega
          refine a_op rfl (o_pkt rfl rfl) ?_
          refine a_op rfl (o_mv rfl) ?_
          refine a_op rfl ((by first | exact o_fa tf39_2 rfl rfl | exact o_fap tf39_2 rfl rfl)) ?_
          refine a_op rfl ((by first | exact o_ld tg3 rfl rfl | exact o_ldp tg3 rfl rfl rfl rfl)) ?_
          refine a_if rfl (o_eq rfl rfl) (fun h337 => ?_) (fun h338 => ?_)
          · refine a_op rfl (o_mv rfl) ?_
            refine a_op rfl (o_mv rfl) ?_
            refine a_if rfl (o_eq rfl rfl) (fun h339 => ?_) (fun h340 => ?_)
            · have w5a := w5 (by assumption); omega
            refine a_op rfl (o_pkt rfl rfl) ?_
            refine a_op rfl (o_pkf rfl rfl) ?_
            refine a_op rfl (o_mv rfl) ?_
            refine a_op rfl (o_mv rfl) ?_
            refine a_if rfl (o_eq rfl rfl) (fun h341 => ?_) (fun h342 => ?_)
            · refine a_op rfl (o_mv rfl) ?_
              refine a_op rfl (o_mv rfl) ?_
              refine a_op rfl (o_mv rfl) ?_
              refine a_if rfl (o_ne rfl rfl) (fun h343 => ?_) (fun h344 => ?_)
              · have w6a := w6 (by assumption); omega
              refine a_op rfl (o_pkt rfl rfl) ?_
              refine a_op rfl (o_pkf rfl rfl) ?_
              refine a_nil ?_
              refine tq_n ?_
              refine w_false rfl ?_
              refine awp_skip ?_
              refine bq_n ?_
              refine tq_n ?_
              exact ⟨(), trivial, ⟨rfl, rfl, rfl, rfl, rfl, rfl, rfl, rfl, rfl, rfl, rfl, trivial⟩, rfl⟩
            refine a_op rfl (o_mv rfl) ?_
            refine a_off rfl ?_
            refine a_off rfl ?_
            refine a_off rfl ?_
            refine a_op rfl (o_pkf rfl rfl) ?_
            refine a_op rfl (o_pkf rfl rfl) ?_
            refine a_nil ?_
            refine tq_n ?_
            refine w_false rfl ?_
            refine awp_skip ?_
            refine bq_n ?_
            refine tq_n ?_
            exact ⟨(), trivial, ⟨rfl, rfl, rfl, rfl, rfl, rfl, rfl, rfl, rfl, rfl, rfl, trivial⟩, rfl⟩
          refine a_op rfl (o_mv rfl) ?_
          refine a_off rfl ?_
          refine a_off rfl ?_
          refine a_op rfl (o_pkf rfl rfl) ?_
          refine a_op rfl (o_pkf rfl rfl) ?_
          refine a_op rfl (o_mv rfl) ?_
          refine a_op rfl (o_mv rfl) ?_
          refine a_if rfl (o_eq rfl rfl) (fun h345 => ?_) (fun h346 => ?_)
          · refine a_op rfl (o_mv rfl) ?_
            refine a_op rfl (o_mv rfl) ?_
            refine a_op rfl (o_mv rfl) ?_
            refine a_if rfl (o_ne rfl rfl) (fun h347 => ?_) (fun h348 => ?_)
            · have w6a := w6 (by assumption); omega
            refine a_op rfl (o_pkt rfl rfl) ?_
            refine a_op rfl (o_pkf rfl rfl) ?_
            refine a_nil ?_
            refine tq_n ?_
            refine w_false rfl ?_
            refine awp_skip ?_
            refine bq_n ?_
            refine tq_n ?_
            exact ⟨(), trivial, ⟨rfl, rfl, rfl, rfl, rfl, rfl, rfl, rfl, rfl, rfl, rfl, trivial⟩, rfl⟩
          refine a_op rfl (o_mv rfl) ?_
          refine a_off rfl ?_
          refine a_off rfl ?_
          refine a_off rfl ?_
          refine a_op rfl (o_pkf rfl rfl) ?_
          refine a_op rfl (o_pkf rfl rfl) ?_
          refine a_nil ?_
          refine tq_n ?_
          refine w_false rfl ?_
          refine awp_skip ?_
          refine bq_n ?_
          refine tq_n ?_
          exact ⟨(), trivial, ⟨rfl, rfl, rfl, rfl, rfl, rfl, rfl, rfl, rfl, rfl, rfl, trivial⟩, rfl⟩
        refine a_op rfl (o_mv rfl) ?_
        refine a_off rfl ?_
        refine a_off rfl ?_
        refine a_off rfl ?_
        refine a_op rfl (o_pkf rfl rfl) ?_
        refine a_op rfl (o_mv rfl) ?_
        refine a_op rfl ((by first | exact o_fa tf39_2 rfl rfl | exact o_fap tf39_2 rfl rfl)) ?_
        refine a_op rfl ((by first | exact o_ld tg3 rfl rfl | exact o_ldp tg3 rfl rfl rfl rfl)) ?_
        refine a_if rfl (o_eq rfl rfl) (fun h349 => ?_) (fun h350 => ?_)
        · refine a_op rfl (o_mv rfl) ?_
          refine a_op rfl (o_mv rfl) ?_
          refine a_if rfl (o_eq rfl rfl) (fun h351 => ?_) (fun h352 => ?_)
          · have w5a := w5 (by assumption); omega
          refine a_op rfl (o_pkt rfl rfl) ?_
          refine a_op rfl (o_pkf rfl rfl) ?_
          refine a_op rfl (o_mv rfl) ?_
          refine a_op rfl (o_mv rfl) ?_
          refine a_if rfl (o_eq rfl rfl) (fun h353 => ?_) (fun h354 => ?_)
          · refine a_op rfl (o_mv rfl) ?_
            refine a_op rfl (o_mv rfl) ?_
            refine a_op rfl (o_mv rfl) ?_
            refine a_if rfl (o_ne rfl rfl) (fun h355 => ?_) (fun h356 => ?_)
            · have w6a := w6 (by assumption); omega
            refine a_op rfl (o_pkt rfl rfl) ?_
            refine a_op rfl (o_pkf rfl rfl) ?_
            refine a_nil ?_
            refine tq_n ?_
            refine w_false rfl ?_
            refine awp_skip ?_
            refine bq_n ?_
            refine tq_n ?_
            exact ⟨(), trivial, ⟨rfl, rfl, rfl, rfl, rfl, rfl, rfl, rfl, rfl, rfl, rfl, trivial⟩, rfl⟩
          refine a_op rfl (o_mv rfl) ?_
          refine a_off rfl ?_
          refine a_off rfl ?_
          refine a_off rfl ?_
          refine a_op rfl (o_pkf rfl rfl) ?_
          refine a_op rfl (o_pkf rfl rfl) ?_
          refine a_nil ?_
          refine tq_n ?_
          refine w_false rfl ?_
          refine awp_skip ?_
          refine bq_n ?_
          refine tq_n ?_
          exact ⟨(), trivial, ⟨rfl, rfl, rfl, rfl, rfl, rfl, rfl, rfl, rfl, rfl, rfl, trivial⟩, rfl⟩
        refine a_op rfl (o_mv rfl) ?_
        refine a_off rfl ?_
        refine a_off rfl ?_
        refine a_op rfl (o_pkf rfl rfl) ?_
        refine a_op rfl (o_pkf rfl rfl) ?_
        refine a_op rfl (o_mv rfl) ?_
        refine a_op rfl (o_mv rfl) ?_
        refine a_if rfl (o_eq rfl rfl) (fun h357 => ?_) (fun h358 => ?_)
        · refine a_op rfl (o_mv rfl) ?_
          refine a_op rfl (o_mv rfl) ?_
          refine a_op rfl (o_mv rfl) ?_
          refine a_if rfl (o_ne rfl rfl) (fun h359 => ?_) (fun h360 => ?_)
          · have w6a := w6 (by assumption); omega
          refine a_op rfl (o_pkt rfl rfl) ?_
          refine a_op rfl (o_pkf rfl rfl) ?_
          refine a_nil ?_
          refine tq_n ?_
          refine w_false rfl ?_
          refine awp_skip ?_
          refine bq_n ?_
          refine tq_n ?_
          exact ⟨(), trivial, ⟨rfl, rfl, rfl, rfl, rfl, rfl, rfl, rfl, rfl, rfl, rfl, trivial⟩, rfl⟩
        refine a_op rfl (o_mv rfl) ?_
        refine a_off rfl ?_
        refine a_off rfl ?_
        refine a_off rfl ?_
        refine a_op rfl (o_pkf rfl rfl) ?_
        refine a_op rfl (o_pkf rfl rfl) ?_
        refine a_nil ?_
        refine tq_n ?_
        refine w_false rfl ?_
        refine awp_skip ?_
        refine bq_n ?_
        refine tq_n ?_
        exact ⟨(), trivial, ⟨rfl, rfl, rfl, rfl, rfl, rfl, rfl, rfl, rfl, rfl, rfl, trivial⟩, rfl⟩
      refine a_op rfl (o_mv rfl) ?_
      refine a_off rfl ?_
      refine a_off rfl ?_
      refine a_op rfl (o_pkf rfl rfl) ?_
      refine a_nil ?_
      refine tq_n ?_
      refine w_false rfl ?_
      refine awp_skip ?_
      refine tq_n ?_
      refine awp_seq ?_
      refine w_reg (l := r4_28.toList) rfl r4_28_ok ?_
      refine a_op rfl ((by first | exact o_fa tf39_2 rfl rfl | exact o_fap tf39_2 rfl rfl)) ?_
      refine a_op rfl ((by first | exact o_ld tg3 rfl rfl | exact o_ldp tg3 rfl rfl rfl rfl)) ?_
      refine a_if rfl (o_ne rfl rfl) (fun h361 => ?_) (fun h362 => ?_)
      · refine a_op rfl (o_mv rfl) ?_
        refine a_op rfl (o_mv rfl) ?_
        refine a_op rfl (o_mv rfl) ?_
        refine a_if rfl (o_ne rfl rfl) (fun h363 => ?_) (fun h364 => ?_)
        · have w4a := w4 (by assumption); omega
        refine a_op rfl (o_pkt rfl rfl) ?_
        refine a_op rfl (o_mv rfl) ?_
        refine a_op rfl ((by first | exact o_fa tf39_2 rfl rfl | exact o_fap tf39_2 rfl rfl)) ?_
        refine a_op rfl ((by first | exact o_ld tg3 rfl rfl | exact o_ldp tg3 rfl rfl rfl rfl)) ?_
        refine a_if rfl (o_eq rfl rfl) (fun h365 => ?_) (fun h366 => ?_)
        · refine a_op rfl (o_mv rfl) ?_
          refine a_op rfl (o_mv rfl) ?_
          refine a_if rfl (o_eq rfl rfl) (fun h367 => ?_) (fun h368 => ?_)
          · have w5a := w5 (by assumption); omega
          refine a_op rfl (o_pkt rfl rfl) ?_
          refine a_op rfl (o_pkf rfl rfl) ?_
          refine a_op rfl (o_mv rfl) ?_
          refine a_op rfl (o_mv rfl) ?_
          refine a_if rfl (o_eq rfl rfl) (fun h369 => ?_) (fun h370 => ?_)
          · refine a_op rfl (o_mv rfl) ?_
            refine a_op rfl (o_mv rfl) ?_
            refine a_op rfl (o_mv rfl) ?_
            refine a_if rfl (o_ne rfl rfl) (fun h371 => ?_) (fun h372 => ?_)
            · have w6a := w6 (by assumption); omega
            refine a_op rfl (o_pkt rfl rfl) ?_
            refine a_op rfl (o_pkf rfl rfl) ?_
            refine a_nil ?_
            refine tq_n ?_
            refine w_false rfl ?_
            refine awp_skip ?_
            refine bq_n ?_
            refine tq_n ?_
            exact ⟨(), trivial, ⟨rfl, rfl, rfl, rfl, rfl, rfl, rfl, rfl, rfl, rfl, rfl, trivial⟩, rfl⟩
          refine a_op rfl (o_mv rfl) ?_
          refine a_off rfl ?_
          refine a_off rfl ?_
          refine a_off rfl ?_
          refine a_op rfl (o_pkf rfl rfl) ?_
          refine a_op rfl (o_pkf rfl rfl) ?_
          refine a_nil ?_
          refine tq_n ?_
          refine w_false rfl ?_
          refine awp_skip ?_
          refine bq_n ?_
          refine tq_n ?_
          exact ⟨(), trivial, ⟨rfl, rfl, rfl, rfl, rfl, rfl, rfl, rfl, rfl, rfl, rfl, trivial⟩, rfl⟩
        refine a_op rfl (o_mv rfl) ?_
        refine a_off rfl ?_
        refine a_off rfl ?_
        refine a_op rfl (o_pkf rfl rfl) ?_
        refine a_op rfl (o_pkf rfl rfl) ?_
        refine a_op rfl (o_mv rfl) ?_
        refine a_op rfl (o_mv rfl) ?_
        refine a_if rfl (o_eq rfl rfl) (fun h373 => ?_) (fun h374 => ?_)
        · refine a_op rfl (o_mv rfl) ?_
          refine a_op rfl (o_mv rfl) ?_
          refine a_op rfl (o_mv rfl) ?_
          refine a_if rfl (o_ne rfl rfl) (fun h375 => ?_) (fun h376 => ?_)
          · have w6a := w6 (by assumption); omega
          refine a_op rfl (o_pkt rfl rfl) ?_
          refine a_op rfl (o_pkf rfl rfl) ?_
          refine a_nil ?_
          refine tq_n ?_
          refine w_false rfl ?_
          refine awp_skip ?_
          refine bq_n ?_
          refine tq_n ?_
          exact ⟨(), trivial, ⟨rfl, rfl, rfl, rfl, rfl, rfl, rfl, rfl, rfl, rfl, rfl, trivial⟩, rfl⟩
        refine a_op rfl (o_mv rfl) ?_
        refine a_off rfl ?_
        refine a_off rfl ?_
        refine a_off rfl ?_
        refine a_op rfl (o_pkf rfl rfl) ?_
        refine a_op rfl (o_pkf rfl rfl) ?_
        refine a_nil ?_
        refine tq_n ?_
        refine w_false rfl ?_
        refine awp_skip ?_
        refine bq_n ?_
        refine tq_n ?_
        exact ⟨(), trivial, ⟨rfl, rfl, rfl, rfl, rfl, rfl, rfl, rfl, rfl, rfl, rfl, trivial⟩, rfl⟩
      refine a_op rfl (o_mv rfl) ?_
      refine a_off rfl ?_
      refine a_off rfl ?_
      refine a_off rfl ?_
      refine a_op rfl (o_pkf rfl rfl) ?_
      refine a_op rfl (o_mv rfl) ?_
      refine a_op rfl ((by first | exact o_fa tf39_2 rfl rfl | exact o_fap tf39_2 rfl rfl)) ?_
      refine a_op rfl ((by first | exact o_ld tg3 rfl rfl | exact o_ldp tg3 rfl rfl rfl rfl)) ?_
      refine a_if rfl (o_eq rfl rfl) (fun h377 => ?_) (fun h378 => ?_)
      · refine a_op rfl (o_mv rfl) ?_
        refine a_op rfl (o_mv rfl) ?_
        refine a_if rfl (o_eq rfl rfl) (fun h379 => ?_) (fun h380 => ?_)
        · have w5a := w5 (by assumption); omega
        refine a_op rfl (o_pkt rfl rfl) ?_
        refine a_op rfl (o_pkf rfl rfl) ?_
        refine a_op rfl (o_mv rfl) ?_
        refine a_op rfl (o_mv rfl) ?_
        refine a_if rfl (o_eq rfl rfl) (fun h381 => ?_) (fun h382 => ?_)
        · refine a_op rfl (o_mv rfl) ?_
          refine a_op rfl (o_mv rfl) ?_
          refine a_op rfl (o_mv rfl) ?_
          refine a_if rfl (o_ne rfl rfl) (fun h383 => ?_) (fun h384 => ?_)
          · have w6a := w6 (by assumption); omega
          refine a_op rfl (o_pkt rfl rfl) ?_
          refine a_op rfl (o_pkf rfl rfl) ?_
          refine a_nil ?_
          refine tq_n ?_
          refine w_false rfl ?_
          refine awp_skip ?_
          refine bq_n ?_
          refine tq_n ?_
          exact ⟨(), trivial, ⟨rfl, rfl, rfl, rfl, rfl, rfl, rfl, rfl, rfl, rfl, rfl, trivial⟩, rfl⟩
        refine a_op rfl (o_mv rfl) ?_
        refine a_off rfl ?_
        refine a_off rfl ?_
        refine a_off rfl ?_
        refine a_op rfl (o_pkf rfl rfl) ?_
        refine a_op rfl (o_pkf rfl rfl) ?_
        refine a_nil ?_
        refine tq_n ?_
        refine w_false rfl ?_
        refine awp_skip ?_
        refine bq_n ?_
        refine tq_n ?_
        exact ⟨(), trivial, ⟨rfl, rfl, rfl, rfl, rfl, rfl, rfl, rfl, rfl, rfl, rfl, trivial⟩, rfl⟩
      refine a_op rfl (o_mv rfl) ?_
      refine a_off rfl ?_
      refine a_off rfl ?_
      refine a_op rfl (o_pkf rfl rfl) ?_
      refine a_op rfl (o_pkf rfl rfl) ?_
      refine a_op rfl (o_mv rfl) ?_
      refine a_op rfl (o_mv rfl) ?_
      refine a_if rfl (o_eq rfl rfl) (fun h385 => ?_) (fun h386 => ?_)
      · refine a_op rfl (o_mv rfl) ?_
        refine a_op rfl (o_mv rfl) ?_
        refine a_op rfl (o_mv rfl) ?_
        refine a_if rfl (o_ne rfl rfl) (fun h387 => ?_) (fun h388 => ?_)
        · have w6a := w6 (by assumption); omega
        refine a_op rfl (o_pkt rfl rfl) ?_
        refine a_op rfl (o_pkf rfl rfl) ?_
        refine a_nil ?_
        refine tq_n ?_
        refine w_false rfl ?_
        refine awp_skip ?_
        refine bq_n ?_
        refine tq_n ?_
        exact ⟨(), trivial, ⟨rfl, rfl, rfl, rfl, rfl, rfl, rfl, rfl, rfl, rfl, rfl, trivial⟩, rfl⟩
      refine a_op rfl (o_mv rfl) ?_
      refine a_off rfl ?_
      refine a_off rfl ?_
      refine a_off rfl ?_
      refine a_op rfl (o_pkf rfl rfl) ?_
      refine a_op rfl (o_pkf rfl rfl) ?_
      refine a_nil ?_
      refine tq_n ?_
      refine w_false rfl ?_
      refine awp_skip ?_
      refine bq_n ?_
      refine tq_n ?_
      exact ⟨(), trivial, ⟨rfl, rfl, rfl, rfl, rfl, rfl, rfl, rfl, rfl, rfl, rfl, trivial⟩, rfl⟩
    intro _ _
    refine w_view [(9, .ptr 1 0), (10, .sl 5 false ((rulesF l).map ruleAV)), (11, .sl 1 false ((offF fl).map intAV)), (12, .raw (.int .i64 (day % 2001))), (13, .ptr 2 0), (14, .raw (.bool (hasB (ruledF x) (rulesF l) (rulesF l).length))), (17, .slo 3 3 0 ((rulesF l).length + 1)), (18, .slo 4 sv 0 sm.length), (123, .sl 8 false ((sixL 6).map ptAV)), (124, .raw (.int .i64 (((sixL 6).length : Nat) : Int))), (125, .raw (.int .i64 ((iC : Nat) : Int)))] ([.var (noteAV x).cells, .var [nilS, nilS, nilS, .sl 8 false ((sixL 6).map ptAV)], .var (ruleAV (ruledF x)).cells, .vec 5 3 (((rulesF l) ++ [(ruledF x)]).map ruleAV), .vec 1 sv (sm.map intAV)]) 5 rfl (Nat.le_of_ble_eq_true rfl) (Nat.le_of_ble_eq_true rfl) ⟨⟨_, rfl, (by first | exact .sloK (Nat.le_of_ble_eq_true rfl) | exact .ptrK (Nat.le_of_ble_eq_true rfl) | exact rs_pur (by simp) rfl)⟩, ⟨_, rfl, (by first | exact .sloK (Nat.le_of_ble_eq_true rfl) | exact .ptrK (Nat.le_of_ble_eq_true rfl) | exact rs_pur (by simp) rfl)⟩, ⟨_, rfl, (by first | exact .sloK (Nat.le_of_ble_eq_true rfl) | exact .ptrK (Nat.le_of_ble_eq_true rfl) | exact rs_pur (by simp) rfl)⟩, ⟨_, rfl, (by first | exact .sloK (Nat.le_of_ble_eq_true rfl) | exact .ptrK (Nat.le_of_ble_eq_true rfl) | exact rs_pur (by simp) rfl)⟩, ⟨_, rfl, (by first | exact .sloK (Nat.le_of_ble_eq_true rfl) | exact .ptrK (Nat.le_of_ble_eq_true rfl) | exact rs_pur (by simp) rfl)⟩, ⟨_, rfl, (by first | exact .sloK (Nat.le_of_ble_eq_true rfl) | exact .ptrK (Nat.le_of_ble_eq_true rfl) | exact rs_pur (by simp) rfl)⟩, ⟨_, rfl, (by first | exact .sloK (Nat.le_of_ble_eq_true rfl) | exact .ptrK (Nat.le_of_ble_eq_true rfl) | exact rs_pur (by simp) rfl)⟩, ⟨_, rfl, (by first | exact .sloK (Nat.le_of_ble_eq_true rfl) | exact .ptrK (Nat.le_of_ble_eq_true rfl) | exact rs_pur (by simp) rfl)⟩, ⟨_, rfl, (by first | exact .sloK (Nat.le_of_ble_eq_true rfl) | exact .ptrK (Nat.le_of_ble_eq_true rfl) | exact rs_pur (by simp) rfl)⟩, ⟨_, rfl, (by first | exact .sloK (Nat.le_of_ble_eq_true rfl) | exact .ptrK (Nat.le_of_ble_eq_true rfl) | exact rs_pur (by simp) rfl)⟩, ⟨_, rfl, (by first | exact .sloK (Nat.le_of_ble_eq_true rfl) | exact .ptrK (Nat.le_of_ble_eq_true rfl) | exact rs_pur (by simp) rfl)⟩, trivial⟩ ⟨ors_var ⟨rs_pur (by simp) rfl, rs_pur (by simp) rfl, rs_pur (by simp) rfl, rs_pur (by simp) rfl, trivial⟩, ors_var ⟨rs_pur (by simp [nilS]) rfl, rs_pur (by simp [nilS]) rfl, rs_pur (by simp [nilS]) rfl, rs_pur (by simp) rfl, trivial⟩, ors_var ⟨rs_pur (by simp) rfl, rs_pur (by simp) rfl, rs_pur (by simp) rfl, rs_pur (by simp) rfl, rs_pur (by simp) rfl, trivial⟩, ors_vec (pmr _), ors_vec (by simp), trivial⟩ ?_
    refine w_reg (l := r4_30.toList) rfl r4_30_ok ?_
    refine a_op rfl (o_add rfl rfl (by simp only [klo, khi]; omega)) ?_
    refine a_op rfl (o_mv rfl) ?_
    refine a_nil ?_
    refine tq_n ?_
    exact ⟨iC + 1, ⟨by omega, by omega⟩, ⟨(by first | exact sub_int rfl (by omega) | rfl | exact sub_eq rfl (by rw [hLA]) | exact sub_eq rfl (by simp)), (by first | exact sub_int rfl (by omega) | rfl | exact sub_eq rfl (by rw [hLA]) | exact sub_eq rfl (by simp)), (by first | exact sub_int rfl (by omega) | rfl | exact sub_eq rfl (by rw [hLA]) | exact sub_eq rfl (by simp)), (by first | exact sub_int rfl (by omega) | rfl | exact sub_eq rfl (by rw [hLA]) | exact sub_eq rfl (by simp)), (by first | exact sub_int rfl (by omega) | rfl | exact sub_eq rfl (by rw [hLA]) | exact sub_eq rfl (by simp)), (by first | exact sub_int rfl (by omega) | rfl | exact sub_eq rfl (by rw [hLA]) | exact sub_eq rfl (by simp)), (by first | exact sub_int rfl (by omega) | rfl | exact sub_eq rfl (by rw [hLA]) | exact sub_eq rfl (by simp)), (by first | exact sub_int rfl (by omega) | rfl | exact sub_eq rfl (by rw [hLA]) | exact sub_eq rfl (by simp)), (by first | exact sub_int rfl (by omega) | rfl | exact sub_eq rfl (by rw [hLA]) | exact sub_eq rfl (by simp)), (by first | exact sub_int rfl (by omega) | rfl | exact sub_eq rfl (by rw [hLA]) | exact sub_eq rfl (by simp)), (by first | exact sub_int rfl (by omega) | rfl | exact sub_eq rfl (by rw [hLA]) | exact sub_eq rfl (by simp)), trivial⟩, rfl⟩
  refine a_nil ?_
  refine tq_n ?_
  refine awp_seq ?_
  refine w_false rfl ?_
  refine awp_exit ?_
  refine tq_x ?_
  refine tq_x ?_
  refine bq_hit ?_
  refine tq_n ?_
  refine awp_seq ?_
  refine w_reg (l := r4_31.toList) rfl r4_31_ok ?_
  refine a_pure rfl rfl rfl cb15 (awake_ok) ?_
  refine a_op rfl (o_as rfl) ?_
  refine a_nil ?_
  refine tq_n ?_
  refine awp_ret ?_
  refine r_one rfl ⟨rfl, trivial⟩ ?_
  exact rs_pur (by simp) rfl
end Go.Ab.D
