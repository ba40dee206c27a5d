/- What functions of this program compute, and the laws of what they compute, under the bounds on lengths that each contract states. -/
import Derived.Test.YtghoaglolhdoeaaDoorD7
set_option linter.unusedSimpArgs false
set_option linter.unusedVariables false
namespace Go.Ab.D
open Go Go.Ab Go.Proofs
theorem cA_filter (pt kind : Int) (rules : List RuleR) : cA pt kind (rules.filter (fun x => decide (x.pt = pt))) = cA pt kind rules := by
  unfold cA; rw [List.filter_filter]; congr 1; apply List.filter_congr; intro x _; simp [sel]
  intro h1 h2; exact h1
theorem cM_filter (meets : RuleR → Bool) (pt kind : Int) (rules : List RuleR) : cM meets pt kind (rules.filter (fun x => decide (x.pt = pt))) = cM meets pt kind rules := by
  unfold cM; rw [List.filter_filter (l := rules)]; congr 2; apply List.filter_congr; intro x _; simp [sel]
  intro h1 h2; exact h1
theorem cA_rev (pt kind : Int) (rules : List RuleR) : cA pt kind rules.reverse = cA pt kind rules := by unfold cA; rw [List.filter_reverse, List.length_reverse]
theorem cM_rev (meets : RuleR → Bool) (pt kind : Int) (rules : List RuleR) : cM meets pt kind rules.reverse = cM meets pt kind rules := by unfold cM; rw [List.filter_reverse, List.filter_reverse, List.length_reverse]
theorem statF_filter (p : PtR) (rules : List RuleR) (hol : List Int) (d : Int) : statF p (rules.filter (fun x => decide (x.pt = p.id))) hol d = statF p rules hol d := by simp only [statF, cA_filter, cM_filter]
theorem statF_rev (p : PtR) (rules : List RuleR) (hol : List Int) (d : Int) : statF p rules.reverse hol d = statF p rules hol d := by simp only [statF, cA_rev, cM_rev]
theorem statF_street (p : PtR) (rules : List RuleR) (hol hol' : List Int) (d : Int) (h : p.street ≠ 0) : statF p rules hol d = statF p rules hol' d := by simp [statF, h]
theorem lstat_eq {pts : List PtR} {rules : List RuleR} {hol : List Int} {n d : Int} {p : PtR} (hw : wrF hol d = 0) (hf : findP pts n = some p) : lstat pts rules hol n d = statF p rules hol d := by simp [lstat, stV, hw, hf]
theorem six_at {i : Nat} (h : i < (sixL 6).length) : (sixL 6)[i] = sixPt (1 + (i : Int)) := by simp [sixL]
theorem six_find {i : Nat} (h : i < (sixL 6).length) : findP (sixL 6) (sixL 6)[i].id = some (sixL 6)[i] ∧ findP (sixL 6).reverse (sixL 6)[i].id = some (sixL 6)[i] := by
  have h6 : i < 6 := by simpa [sixL_len] using h
  match i, h6 with
  | 0, _ | 1, _ | 2, _ | 3, _ | 4, _ | 5, _ => exact ⟨rfl, rfl⟩
theorem offF_wr {l : List Int} {d : Int} (h0 : 0 ≤ d) (h1 : d ≤ 2000) : wrF (offF l) d = 0 := by simp [wrF, offF_right, h0]; omega
theorem nil_wr {d : Int} (h0 : 0 ≤ d) (h1 : d ≤ 2000) : wrF [] d = 0 := by simp [wrF, rightF, incr, h0]; omega
theorem apart_law (R : List RuleR) (fl : List Int) (d : Int) (h0 : 0 ≤ d) (h1 : d ≤ 2000) (i : Nat) (hi : i < (sixL 6).length) :
    1 ≤ lstat (sixL 6) R (offF fl) (sixL 6)[i].id d ∧ lstat (sixL 6) (R.filter (fun x => decide (x.pt = (sixL 6)[i].id))) (offF fl) (sixL 6)[i].id d = lstat (sixL 6) R (offF fl) (sixL 6)[i].id d ∧
    lstat (sixL 6).reverse R.reverse (offF fl) (sixL 6)[i].id d = lstat (sixL 6) R (offF fl) (sixL 6)[i].id d ∧
    ((sixL 6)[i].street ≠ 0 → lstat (sixL 6) R [] (sixL 6)[i].id d = lstat (sixL 6) R (offF fl) (sixL 6)[i].id d) := by
  obtain ⟨f1, f2⟩ := six_find hi
  have hw := offF_wr (l := fl) h0 h1
  rw [lstat_eq hw f1, lstat_eq hw f1, lstat_eq hw f2, lstat_eq (nil_wr h0 h1) f1]
  exact ⟨(statF_bd _ _ _ _).1, statF_filter _ _ _ _, statF_rev _ _ _ _, fun h => statF_street _ _ _ _ _ h⟩


def ownF (R : List RuleR) (n : Int) (k : Nat) : List RuleR := (R.take k).filter (fun x => decide (x.pt = n))
theorem ownF_succ {R : List RuleR} {n : Int} {k : Nat} (h : k < R.length) : ownF R n (k + 1) = ownF R n k ++ if R[k].pt = n then [R[k]] else [] := by
  unfold ownF; rw [List.take_succ_eq_append_getElem h, List.filter_append]; by_cases h2 : R[k].pt = n <;> simp [h2]
theorem ownF_bd (R : List RuleR) (n : Int) (k : Nat) : (ownF R n k).length ≤ k := by
  have h1 := List.length_filter_le (fun x : RuleR => decide (x.pt = n)) (R.take k); have h2 := List.length_take_le k R; unfold ownF; omega
theorem pmr (l : List RuleR) : ∀ x ∈ l.map ruleAV, Pur x := by simp
theorem pmp (l : List PtR) : ∀ x ∈ l.map ptAV, Pur x := by simp
theorem pms {es : List AV} {y : AV} (h : ∀ x ∈ es, Pur x) (hy : Pur y) : ∀ x ∈ es ++ [y], Pur x := by
  intro x hx; rcases List.mem_append.1 hx with hx | hx
  · exact h x hx
  · rw [List.mem_singleton.1 hx]; exact hy
theorem ownF_ok {R : List RuleR} (h : ∀ x ∈ R, x.ok) (n : Int) (k : Nat) : ∀ x ∈ ownF R n k, x.ok := fun x hx => h x (List.mem_of_mem_take (List.mem_filter.1 hx).1)
theorem rulesF_len (l : List NoteR) : (rulesF l).length ≤ 30 := by unfold rulesF; rw [List.length_map]; exact List.length_take_le 30 l
theorem rulesF_ok {l : List NoteR} (hx : ∀ x ∈ l, x.ok) : ∀ x ∈ rulesF l, x.ok := by
  intro x h; unfold rulesF at h; obtain ⟨y, hy, rfl⟩ := List.mem_map.1 h; exact ruledF_ok (hx y (List.mem_of_mem_take hy))
theorem offF_len (l : List Int) : (offF l).length ≤ 30 := by unfold offF; rw [offG_len]; exact List.length_take_le 30 l

noncomputable def r3_0 : Array Oper := opsAt Tryd.f3 [0]
theorem r3_0_ok : dstOk 141 r3_0.toList = true ∧ r3_0.toList.all (fun o => noDefer o.op) = true := by decide +kernel
noncomputable def r3_1 : Array Oper := opsAt Tryd.f3 [1, 0]
theorem r3_1_ok : dstOk 141 r3_1.toList = true ∧ r3_1.toList.all (fun o => noDefer o.op) = true := by decide +kernel
noncomputable def r3_2 : Array Oper := opsAt Tryd.f3 [1, 1, 0]
theorem r3_2_ok : dstOk 141 r3_2.toList = true ∧ r3_2.toList.all (fun o => noDefer o.op) = true := by decide +kernel
noncomputable def r3_3 : Array Oper := opsAt Tryd.f3 [1, 1, 1, 0, 0]
theorem r3_3_ok : dstOk 141 r3_3.toList = true ∧ r3_3.toList.all (fun o => noDefer o.op) = true := by decide +kernel
noncomputable def r3_4 : Array Oper := opsAt Tryd.f3 [1, 1, 1, 0, 1, 0, 0, 0]
theorem r3_4_ok : dstOk 141 r3_4.toList = true ∧ r3_4.toList.all (fun o => noDefer o.op) = true := by decide +kernel
noncomputable def r3_5 : Array Oper := opsAt Tryd.f3 [1, 1, 1, 0, 1, 0, 0, 1, 1, 0, 0, 0]
theorem r3_5_ok : dstOk 141 r3_5.toList = true ∧ r3_5.toList.all (fun o => noDefer o.op) = true := by decide +kernel
noncomputable def r3_6 : Array Oper := opsAt Tryd.f3 [1, 1, 1, 0, 1, 0, 0, 1, 1, 0, 0, 1]
theorem r3_6_ok : dstOk 141 r3_6.toList = true ∧ r3_6.toList.all (fun o => noDefer o.op) = true := by decide +kernel
noncomputable def r3_7 : Array Oper := opsAt Tryd.f3 [1, 1, 1, 0, 1, 0, 0, 1, 1, 1]
theorem r3_7_ok : dstOk 141 r3_7.toList = true ∧ r3_7.toList.all (fun o => noDefer o.op) = true := by decide +kernel
noncomputable def b3_0 : Code := (.seq (.region 4 r3_4 false) (.seq (.cond (.tmp 32) .skip (.exit 0)) (.seq (.block 1 (.seq (.region 5 r3_5 false) (.region 6 r3_6 false))) (.region 7 r3_7 false))))
noncomputable def r3_8 : Array Oper := opsAt Tryd.f3 [1, 1, 1, 1, 0]
theorem r3_8_ok : dstOk 141 r3_8.toList = true ∧ r3_8.toList.all (fun o => noDefer o.op) = true := by decide +kernel
noncomputable def r3_9 : Array Oper := opsAt Tryd.f3 [1, 1, 1, 1, 1, 0]
theorem r3_9_ok : dstOk 141 r3_9.toList = true ∧ r3_9.toList.all (fun o => noDefer o.op) = true := by decide +kernel
noncomputable def r3_10 : Array Oper := opsAt Tryd.f3 [1, 1, 1, 1, 1, 1, 0, 0]
theorem r3_10_ok : dstOk 141 r3_10.toList = true ∧ r3_10.toList.all (fun o => noDefer o.op) = true := by decide +kernel
noncomputable def r3_11 : Array Oper := opsAt Tryd.f3 [1, 1, 1, 1, 1, 1, 0, 1, 0, 0, 0]
theorem r3_11_ok : dstOk 141 r3_11.toList = true ∧ r3_11.toList.all (fun o => noDefer o.op) = true := by decide +kernel
noncomputable def r3_12 : Array Oper := opsAt Tryd.f3 [1, 1, 1, 1, 1, 1, 0, 1, 0, 0, 1, 1, 0, 0, 0]
theorem r3_12_ok : dstOk 141 r3_12.toList = true ∧ r3_12.toList.all (fun o => noDefer o.op) = true := by decide +kernel
noncomputable def r3_13 : Array Oper := opsAt Tryd.f3 [1, 1, 1, 1, 1, 1, 0, 1, 0, 0, 1, 1, 0, 0, 1]
theorem r3_13_ok : dstOk 141 r3_13.toList = true ∧ r3_13.toList.all (fun o => noDefer o.op) = true := by decide +kernel
noncomputable def r3_14 : Array Oper := opsAt Tryd.f3 [1, 1, 1, 1, 1, 1, 0, 1, 0, 0, 1, 1, 1]
theorem r3_14_ok : dstOk 141 r3_14.toList = true ∧ r3_14.toList.all (fun o => noDefer o.op) = true := by decide +kernel
noncomputable def b3_1 : Code := (.seq (.region 11 r3_11 false) (.seq (.cond (.tmp 52) .skip (.exit 2)) (.seq (.block 3 (.seq (.region 12 r3_12 false) (.region 13 r3_13 true))) (.region 14 r3_14 false))))
noncomputable def r3_15 : Array Oper := opsAt Tryd.f3 [1, 1, 1, 1, 1, 1, 1, 0, 0]
theorem r3_15_ok : dstOk 141 r3_15.toList = true ∧ r3_15.toList.all (fun o => noDefer o.op) = true := by decide +kernel
noncomputable def r3_16 : Array Oper := opsAt Tryd.f3 [1, 1, 1, 1, 1, 1, 1, 0, 1, 0, 0, 0]
theorem r3_16_ok : dstOk 141 r3_16.toList = true ∧ r3_16.toList.all (fun o => noDefer o.op) = true := by decide +kernel
noncomputable def r3_17 : Array Oper := opsAt Tryd.f3 [1, 1, 1, 1, 1, 1, 1, 0, 1, 0, 0, 1, 1, 0, 0, 0]
theorem r3_17_ok : dstOk 141 r3_17.toList = true ∧ r3_17.toList.all (fun o => noDefer o.op) = true := by decide +kernel
noncomputable def r3_18 : Array Oper := opsAt Tryd.f3 [1, 1, 1, 1, 1, 1, 1, 0, 1, 0, 0, 1, 1, 0, 0, 1, 0]
theorem r3_18_ok : dstOk 141 r3_18.toList = true ∧ r3_18.toList.all (fun o => noDefer o.op) = true := by decide +kernel
noncomputable def r3_19 : Array Oper := opsAt Tryd.f3 [1, 1, 1, 1, 1, 1, 1, 0, 1, 0, 0, 1, 1, 0, 0, 1, 1, 0, 0]
theorem r3_19_ok : dstOk 141 r3_19.toList = true ∧ r3_19.toList.all (fun o => noDefer o.op) = true := by decide +kernel
noncomputable def r3_20 : Array Oper := opsAt Tryd.f3 [1, 1, 1, 1, 1, 1, 1, 0, 1, 0, 0, 1, 1, 0, 0, 1, 1, 0, 1, 0, 0, 0]
theorem r3_20_ok : dstOk 141 r3_20.toList = true ∧ r3_20.toList.all (fun o => noDefer o.op) = true := by decide +kernel
noncomputable def r3_21 : Array Oper := opsAt Tryd.f3 [1, 1, 1, 1, 1, 1, 1, 0, 1, 0, 0, 1, 1, 0, 0, 1, 1, 0, 1, 0, 0, 1, 1, 0, 0, 0]
theorem r3_21_ok : dstOk 141 r3_21.toList = true ∧ r3_21.toList.all (fun o => noDefer o.op) = true := by decide +kernel
noncomputable def r3_22 : Array Oper := opsAt Tryd.f3 [1, 1, 1, 1, 1, 1, 1, 0, 1, 0, 0, 1, 1, 0, 0, 1, 1, 0, 1, 0, 0, 1, 1, 0, 0, 1, 0]
theorem r3_22_ok : dstOk 141 r3_22.toList = true ∧ r3_22.toList.all (fun o => noDefer o.op) = true := by decide +kernel
noncomputable def r3_23 : Array Oper := opsAt Tryd.f3 [1, 1, 1, 1, 1, 1, 1, 0, 1, 0, 0, 1, 1, 0, 0, 1, 1, 0, 1, 0, 0, 1, 1, 0, 0, 1, 1, 0]
theorem r3_23_ok : dstOk 141 r3_23.toList = true ∧ r3_23.toList.all (fun o => noDefer o.op) = true := by decide +kernel
noncomputable def r3_24 : Array Oper := opsAt Tryd.f3 [1, 1, 1, 1, 1, 1, 1, 0, 1, 0, 0, 1, 1, 0, 0, 1, 1, 0, 1, 0, 0, 1, 1, 1]
theorem r3_24_ok : dstOk 141 r3_24.toList = true ∧ r3_24.toList.all (fun o => noDefer o.op) = true := by decide +kernel
noncomputable def b3_2 : Code := (.seq (.region 20 r3_20 false) (.seq (.cond (.tmp 80) .skip (.exit 6)) (.seq (.block 7 (.seq (.region 21 r3_21 false) (.seq (.region 22 r3_22 false) (.cond (.tmp 87) (.region 23 r3_23 false) .skip)))) (.region 24 r3_24 false))))
noncomputable def r3_25 : Array Oper := opsAt Tryd.f3 [1, 1, 1, 1, 1, 1, 1, 0, 1, 0, 0, 1, 1, 0, 0, 1, 1, 1, 0]
theorem r3_25_ok : dstOk 141 r3_25.toList = true ∧ r3_25.toList.all (fun o => noDefer o.op) = true := by decide +kernel
noncomputable def r3_26 : Array Oper := opsAt Tryd.f3 [1, 1, 1, 1, 1, 1, 1, 0, 1, 0, 0, 1, 1, 0, 0, 1, 1, 1, 1, 0]
theorem r3_26_ok : dstOk 141 r3_26.toList = true ∧ r3_26.toList.all (fun o => noDefer o.op) = true := by decide +kernel
noncomputable def r3_27 : Array Oper := opsAt Tryd.f3 [1, 1, 1, 1, 1, 1, 1, 0, 1, 0, 0, 1, 1, 0, 0, 1, 1, 1, 1, 1, 0, 0]
theorem r3_27_ok : dstOk 141 r3_27.toList = true ∧ r3_27.toList.all (fun o => noDefer o.op) = true := by decide +kernel
noncomputable def r3_28 : Array Oper := opsAt Tryd.f3 [1, 1, 1, 1, 1, 1, 1, 0, 1, 0, 0, 1, 1, 1]
theorem r3_28_ok : dstOk 141 r3_28.toList = true ∧ r3_28.toList.all (fun o => noDefer o.op) = true := by decide +kernel
noncomputable def b3_3 : Code := (.seq (.region 16 r3_16 false) (.seq (.cond (.tmp 74) .skip (.exit 4)) (.seq (.block 5 (.seq (.region 17 r3_17 false) (.seq (.region 18 r3_18 false) (.seq (.seq (.region 19 r3_19 false) (.block 6 (.loop b3_2))) (.seq (.region 25 r3_25 false) (.seq (.region 26 r3_26 false) (.cond (.tmp 138) (.seq (.region 27 r3_27 false) .ret) .skip))))))) (.region 28 r3_28 false))))
noncomputable def r3_29 : Array Oper := opsAt Tryd.f3 [1, 1, 1, 1, 1, 1, 1, 1, 0]
theorem r3_29_ok : dstOk 141 r3_29.toList = true ∧ r3_29.toList.all (fun o => noDefer o.op) = true := by decide +kernel
noncomputable def c3 : Code := (.seq (.region 0 r3_0 false) (.seq (.region 1 r3_1 false) (.seq (.region 2 r3_2 false) (.seq (.seq (.region 3 r3_3 false) (.block 0 (.loop b3_0))) (.seq (.region 8 r3_8 false) (.seq (.region 9 r3_9 false) (.seq (.seq (.region 10 r3_10 false) (.block 2 (.loop b3_1))) (.seq (.seq (.region 15 r3_15 false) (.block 4 (.loop b3_3))) (.seq (.region 29 r3_29 false) .ret)))))))))
theorem body3 : Tryd.f3.body = some c3 := by kernel_rfl
theorem apart_ok (b0 : Bool) (l : List NoteR) (hl0 : l.length ≤ 9223372036854775807) (hx : ∀ x ∈ l, x.ok) (b1 : Bool) (fl : List Int) (hl1 : fl.length ≤ 9223372036854775807) (hfl : ∀ x ∈ fl, u8r x) (day : Int) (hd : 0 ≤ day ∧ day ≤ 65535) : PureCall Tryd.prog GL 3 [.sl 4 b0 (l.map noteAV), .sl 1 b1 (fl.map u8AV), .raw (.int .u16 day)] (.raw (.bool true)) := by
  refine pure_of_body Tryd.func3 body3 (Nat.le_of_ble_eq_true rfl) (by simp) (by simp) ?_
  refine w_keep [(0, .sl 4 b0 (l.map noteAV)), (1, .sl 1 b1 (fl.map u8AV)), (2, .raw (.int .u16 day))] ⟨rfl, rfl, rfl, trivial⟩ ?_
  unfold c3
  have hR := rulesF_len l; have hRx := rulesF_ok hx; have hHO := offF_len fl; have h6 := sixL_len 6
  refine awp_seq ?_
  refine w_reg (l := r3_0.toList) rfl r3_0_ok ?_
  refine a_op rfl (o_as rfl) ?_
  refine a_nil ?_
  refine tq_n ?_
  refine awp_seq ?_
  refine w_reg (l := r3_1.toList) rfl r3_1_ok ?_
  refine a_pure rfl rfl rfl cb11 (six_ok) ?_
  refine a_op rfl (o_mv rfl) ?_
  refine a_pure rfl rfl rfl cb12 (rules_ok _ _ (by omega) hx) ?_
  refine a_op rfl (o_mv rfl) ?_
  refine a_pure rfl rfl rfl cb13 (off_ok _ _ (by omega) hfl) ?_
  refine a_op rfl (o_mv rfl) ?_
  refine a_op rfl (o_rem rfl rfl (by omega) (by omega)) ?_
  refine a_op rfl (o_cv tk24 tk3 rfl (by simp only [klo, khi]; omega)) ?_
  refine a_op rfl (o_al (N := 0) tz30 rfl rfl rfl) ?_
  refine a_op0 rfl (o_st (N := 3) tn30 rfl rfl (by first | exact good_slo rfl | rfl | (simp [AV.goodPart, AV.good, AV.isCell, fresh, nilS, Value.oneCell']; done)) rfl rfl) ?_
  refine a_op rfl (o_as rfl) ?_
  refine a_op rfl (o_as rfl) ?_
  refine a_op rfl (o_as rfl) ?_
  refine a_nil ?_
  refine tq_n ?_
  refine awp_seq ?_
  refine w_reg (l := r3_2.toList) rfl r3_2_ok ?_
  refine a_op rfl (o_as rfl) ?_
  refine a_nil ?_
  refine tq_n ?_
  refine awp_seq ?_
  refine awp_seq ?_
  refine w_own (q := 11) (z := 5) (N := 1) (by decide) rfl rfl rfl ?_
  refine w_reg (l := r3_3.toList) rfl r3_3_ok ?_
  refine a_op rfl (o_mv rfl) ?_
  refine a_op rfl (o_len rfl rfl (by first | exact List.length_map .. | rfl) tl32) ?_
  refine a_op rfl (o_mv rfl) ?_
  refine a_nil ?_
  refine tq_n ?_
  refine awp_block ?_
  refine w_loop (fun i : Nat => i ≤ (rulesF l).length) (fun i => [(7, .ptr 0 0), (8, .sl 5 false ((rulesF l).map ruleAV)), (9, .sl 1 false ((offF fl).map intAV)), (10, .raw (.int .i64 (day % 2001))), (11, .slo 1 (i) 0 (i)), (30, .raw (.int .i64 (((rulesF l).length : Nat) : Int))), (31, .raw (.int .i64 ((i : Nat) : Int)))]) (fun i => [.var [nilS, nilS, nilS, .sl 8 false ((sixL 6).map ptAV)], .vec 5 (i) (((rulesF l).reverse.take i).map ruleAV)]) (fun i => (rulesF l).length - i) (0) (by omega) ⟨(by first | exact sub_int rfl (by omega) | rfl | exact sub_eq rfl (by rw [ownF_succ (by omega)]; simp [*])), (by first | exact sub_int rfl (by omega) | rfl | exact sub_eq rfl (by rw [ownF_succ (by omega)]; simp [*])), (by first | exact sub_int rfl (by omega) | rfl | exact sub_eq rfl (by rw [ownF_succ (by omega)]; simp [*])), (by first | exact sub_int rfl (by omega) | rfl | exact sub_eq rfl (by rw [ownF_succ (by omega)]; simp [*])), (by first | exact sub_int rfl (by omega) | rfl | exact sub_eq rfl (by rw [ownF_succ (by omega)]; simp [*])), (by first | exact sub_int rfl (by omega) | rfl | exact sub_eq rfl (by rw [ownF_succ (by omega)]; simp [*])), (by first | exact sub_int rfl (by omega) | rfl | exact sub_eq rfl (by rw [ownF_succ (by omega)]; simp [*])), trivial⟩ rfl ?_
  intro iA hA
  unfold b3_0
  refine awp_seq ?_
  refine w_reg (l := r3_4.toList) rfl r3_4_ok ?_
  refine a_if rfl (o_lt rfl rfl) (fun h1 => ?_) (fun h2 => ?_)
  · refine a_nil ?_
    refine tq_n ?_
    refine awp_seq ?_
    refine w_true rfl ?_
    refine awp_skip ?_
    refine tq_n ?_
    refine awp_seq ?_
    refine awp_block ?_
    refine awp_seq ?_
    refine w_reg (l := r3_5.toList) rfl r3_5_ok ?_
    refine a_op rfl (o_mv rfl) ?_
    refine a_op rfl (o_as rfl) ?_
    refine a_nil ?_
    refine tq_n ?_
    refine w_reg (l := r3_6.toList) rfl r3_6_ok ?_
    refine a_op rfl (o_mv rfl) ?_
    refine a_op rfl (o_mv rfl) ?_
    refine a_op rfl (o_mv rfl) ?_
    refine a_op rfl (o_len rfl rfl (by first | exact List.length_map .. | rfl) tl32) ?_
    refine a_op rfl (o_sub rfl rfl (by simp only [klo, khi]; omega)) ?_
    refine a_op rfl (o_mv rfl) ?_
    refine a_op rfl (o_sub rfl rfl (by simp only [klo, khi]; omega)) ?_
    refine a_op rfl (o_ix te32 tn37 rfl rfl (j := (rulesF l).length - 1 - iA) (by omega) (ixm _ _ _ (by omega))) ?_
    refine a_op rfl ((by first | exact o_ldg tg37 tn37 rfl rfl | exact o_ldpg tg37 tn37 rfl rfl rfl rfl)) ?_
    refine a_op rfl (o_bs tE32 (by decide) rfl rfl rfl) ?_
    refine a_op rfl (o_ap tE32 rfl rfl (by simp; omega) rfl rfl rfl (by simp; omega) (by simp; omega) rfl rfl rfl rfl) ?_
    refine a_op rfl (o_as rfl) ?_
    refine a_nil ?_
    refine bq_n ?_
    refine tq_n ?_
    refine w_reg (l := r3_7.toList) rfl r3_7_ok ?_
    refine a_op rfl (o_add rfl rfl (by simp only [klo, khi]; omega)) ?_
    refine a_op rfl (o_mv rfl) ?_
    refine a_nil ?_
    refine tq_n ?_
    exact ⟨iA + 1, ⟨by omega, by omega⟩, ⟨(by first | exact sub_int rfl (by omega) | rfl | exact sub_eq rfl (by rw [ownF_succ (by omega)]; simp [*])), (by first | exact sub_int rfl (by omega) | rfl | exact sub_eq rfl (by rw [ownF_succ (by omega)]; simp [*])), (by first | exact sub_int rfl (by omega) | rfl | exact sub_eq rfl (by rw [ownF_succ (by omega)]; simp [*])), (by first | exact sub_int rfl (by omega) | rfl | exact sub_eq rfl (by rw [ownF_succ (by omega)]; simp [*])), (by first | exact sub_int rfl (by omega) | rfl | exact sub_eq rfl (by rw [ownF_succ (by omega)]; simp [*])), (by first | exact sub_int rfl (by omega) | rfl | exact sub_eq rfl (by rw [ownF_succ (by omega)]; simp [*])), (by first | exact sub_int rfl (by omega) | rfl | exact sub_eq rfl (by rw [ownF_succ (by omega)]; simp [*])), trivial⟩, by rw [List.take_succ_eq_append_getElem (by simp; omega), List.getElem_reverse]; simp only [List.map_append, List.map_cons, List.map_nil]; try rfl⟩
  · refine a_nil ?_
    refine tq_n ?_
    refine awp_seq ?_
    refine w_false rfl ?_
    refine awp_exit ?_
    refine tq_x ?_
    refine tq_x ?_
    refine bq_hit ?_
    refine tq_n ?_
    refine awp_seq ?_
    refine w_reg (l := r3_8.toList) rfl r3_8_ok ?_
    refine a_op rfl ((by first | exact o_ldg tg30 tn30 rfl rfl | exact o_ldpg tg30 tn30 rfl rfl rfl rfl)) ?_
    refine a_op rfl (o_al (N := 2) tz30 rfl rfl rfl) ?_
    refine a_op0 rfl (o_st (N := 3) tn30 rfl rfl (by first | exact good_slo rfl | rfl | (simp [AV.goodPart, AV.good, AV.isCell, fresh, nilS, Value.oneCell']; done)) rfl rfl) ?_
    refine a_nil ?_
    refine tq_n ?_
    refine awp_seq ?_
    refine w_reg (l := r3_9.toList) rfl r3_9_ok ?_
    refine a_op rfl ((by first | exact o_fa tf30_3 rfl rfl | exact o_fap tf30_3 rfl rfl)) ?_
    refine a_op0 rfl (o_st (N := 0) tn28 rfl rfl (by first | exact good_slo rfl | rfl | (simp [AV.goodPart, AV.good, AV.isCell, fresh, nilS, Value.oneCell']; done)) rfl rfl) ?_
    refine a_nil ?_
    refine tq_n ?_
    refine awp_seq ?_
    refine awp_seq ?_
    refine w_ownc (i := 2) (j := 3) (z := 8) (N := 3) (by decide) rfl rfl rfl rfl rfl rfl ?_
    refine w_reg (l := r3_10.toList) rfl r3_10_ok ?_
    refine a_op rfl ((by first | exact o_fa tf30_3 rfl rfl | exact o_fap tf30_3 rfl rfl)) ?_
    refine a_op rfl ((by first | exact o_ld tg28 rfl rfl | exact o_ldp tg28 rfl rfl rfl rfl)) ?_
    refine a_op rfl (o_len rfl rfl (by first | exact List.length_map .. | rfl) tl28) ?_
    refine a_op rfl (o_mv rfl) ?_
    refine a_nil ?_
    refine tq_n ?_
    refine awp_block ?_
    refine w_loop (fun i : Nat => i ≤ (sixL 6).length) (fun i => [(7, .ptr 0 0), (8, .sl 5 false ((rulesF l).map ruleAV)), (9, .sl 1 false ((offF fl).map intAV)), (10, .raw (.int .i64 (day % 2001))), (11, .slo 1 (iA) 0 (iA)), (13, .ptr 2 0), (50, .raw (.int .i64 (((sixL 6).length : Nat) : Int))), (51, .raw (.int .i64 ((i : Nat) : Int)))]) (fun i => [.var [nilS, nilS, nilS, .sl 8 false ((sixL 6).map ptAV)], .vec 5 (iA) (((rulesF l).reverse.take iA).map ruleAV), .var [nilS, nilS, nilS, .slo 3 (i) 0 (i)], .vec 8 (i) (((sixL 6).reverse.take i).map ptAV)]) (fun i => (sixL 6).length - i) (0) (by omega) ⟨(by first | exact sub_int rfl (by omega) | rfl | exact sub_eq rfl (by rw [ownF_succ (by omega)]; simp [*])), (by first | exact sub_int rfl (by omega) | rfl | exact sub_eq rfl (by rw [ownF_succ (by omega)]; simp [*])), (by first | exact sub_int rfl (by omega) | rfl | exact sub_eq rfl (by rw [ownF_succ (by omega)]; simp [*])), (by first | exact sub_int rfl (by omega) | rfl | exact sub_eq rfl (by rw [ownF_succ (by omega)]; simp [*])), (by first | exact sub_int rfl (by omega) | rfl | exact sub_eq rfl (by rw [ownF_succ (by omega)]; simp [*])), (by first | exact sub_int rfl (by omega) | rfl | exact sub_eq rfl (by rw [ownF_succ (by omega)]; simp [*])), (by first | exact sub_int rfl (by omega) | rfl | exact sub_eq rfl (by rw [ownF_succ (by omega)]; simp [*])), (by first | exact sub_int rfl (by omega) | rfl | exact sub_eq rfl (by rw [ownF_succ (by omega)]; simp [*])), trivial⟩ rfl ?_
    intro iB hB
    unfold b3_1
    refine awp_seq ?_
    refine w_reg (l := r3_11.toList) rfl r3_11_ok ?_
    refine a_if rfl (o_lt rfl rfl) (fun h3 => ?_) (fun h4 => ?_)
    · refine a_nil ?_
      refine tq_n ?_
      refine awp_seq ?_
      refine w_true rfl ?_
      refine awp_skip ?_
      refine tq_n ?_
      refine awp_seq ?_
      refine awp_block ?_
      refine awp_seq ?_
      have hb : (sixL 6).length - 1 - iB < (sixL 6).length := by omega
      have hn : (((sixL 6).length : Nat) : Int) - 1 - (iB : Int) = (((sixL 6).length - 1 - iB : Nat) : Int) := by omega
      refine w_reg (l := r3_12.toList) rfl r3_12_ok ?_
      refine a_op rfl (o_mv rfl) ?_
      refine a_op rfl (o_as rfl) ?_
      refine a_nil ?_
      refine tq_n ?_
      refine awp_draw ⟨[[], [0], [], [2], [], [4], [4, 5], [4, 5, 6], [], [4, 5, 6, 7, 8], [2, 3, 4, 5, 6, 7, 8, 9], [2, 3, 4, 5, 6, 7, 8, 9, 10], [2, 3, 4, 5, 6, 7, 8, 9, 10, 11], [0, 1, 2, 3, 4, 5, 6, 7, 8, 9, 10, 11, 12], [0, 1, 2, 3, 4, 5, 6, 7, 8, 9, 10, 11, 12, 13], [0, 1, 2, 3, 4, 5, 6, 7, 8, 9, 10, 11, 12, 13, 14]], [[13], [54], [7], [56], [7], [58], [59], [60], [14], [61, 62], [57, 63], [64], [65], [55, 66], [13], [67, 68]], [[], [2], [], [0], [], [0], [], [], [], [], [], [], [], [3], [], [2, 3]], [none, none, none, none, none, none, none, none, none, none, none, none, none, some 3, none, some 2]⟩ mo r3_13_ok (by decide +kernel) (l := r3_13.toList) rfl ?_
      refine d_op rfl rfl rfl (fun _ => (by first | exact o_fa tf30_3 rfl rfl | exact o_fap tf30_3 rfl rfl)) ?_
      refine d_op rfl rfl rfl (fun _ => (by first | exact o_ld tg28 rfl rfl | exact o_ldp tg28 rfl rfl rfl rfl)) ?_
      refine d_op rfl rfl rfl (fun _ => (by first | exact o_fa tf30_3 rfl rfl | exact o_fap tf30_3 rfl rfl)) ?_
      refine d_op rfl rfl rfl (fun _ => (by first | exact o_ld tg28 rfl rfl | exact o_ldp tg28 rfl rfl rfl rfl)) ?_
      refine d_op rfl rfl rfl (fun _ => (by first | exact o_fa tf30_3 rfl rfl | exact o_fap tf30_3 rfl rfl)) ?_
      refine d_op rfl rfl rfl (fun _ => (by first | exact o_ld tg28 rfl rfl | exact o_ldp tg28 rfl rfl rfl rfl)) ?_
      refine d_op rfl rfl rfl (fun _ => o_len rfl rfl (by first | exact List.length_map .. | rfl) tl28) ?_
      refine d_op rfl rfl rfl (fun _ => o_sub rfl rfl (by simp only [klo, khi]; omega)) ?_
      refine d_op rfl rfl rfl (fun _ => o_mv rfl) ?_
      refine d_op rfl rfl rfl (fun _ => o_sub rfl rfl (by simp only [klo, khi]; omega)) ?_
      refine d_op rfl rfl rfl (fun _ => o_ix te28 tn39 rfl rfl hn (ixm _ _ _ hb)) ?_
      refine d_op rfl rfl rfl (fun _ => (by first | exact o_ldg tg39 tn39 rfl rfl | exact o_ldpg tg39 tn39 rfl rfl rfl rfl)) ?_
      refine d_op rfl rfl rfl (fun _ => o_bs tE28 (by decide) rfl rfl rfl) ?_
      refine d_w rfl rfl rfl (fun _ => o_apD tE28 rfl rfl (by simp [sixL_len]; omega) rfl rfl rfl (by simp [sixL_len]; omega) (by simp [sixL_len]; omega) rfl rfl rfl) rfl rfl rfl ?_
      refine d_op rfl rfl rfl (fun _ => (by first | exact o_fa tf30_3 rfl rfl | exact o_fap tf30_3 rfl rfl)) ?_
      refine d_w0 rfl rfl rfl (fun _ => o_stD (N := 0) tn28 rfl rfl (by first | exact good_slo rfl | rfl | (simp [AV.goodPart, AV.good, AV.isCell, fresh, nilS, Value.oneCell']; done)) rfl rfl rfl) rfl rfl rfl ?_
      refine d_nil ?_
      refine bq_n ?_
      refine tq_n ?_
      refine w_reg (l := r3_14.toList) rfl r3_14_ok ?_
      refine a_op rfl (o_add rfl rfl (by simp only [klo, khi]; omega)) ?_
      refine a_op rfl (o_mv rfl) ?_
      refine a_nil ?_
      refine tq_n ?_
      exact ⟨iB + 1, ⟨by omega, by omega⟩, ⟨(by first | exact sub_int rfl (by omega) | rfl | exact sub_eq rfl (by rw [ownF_succ (by omega)]; simp [*])), (by first | exact sub_int rfl (by omega) | rfl | exact sub_eq rfl (by rw [ownF_succ (by omega)]; simp [*])), (by first | exact sub_int rfl (by omega) | rfl | exact sub_eq rfl (by rw [ownF_succ (by omega)]; simp [*])), (by first | exact sub_int rfl (by omega) | rfl | exact sub_eq rfl (by rw [ownF_succ (by omega)]; simp [*])), (by first | exact sub_int rfl (by omega) | rfl | exact sub_eq rfl (by rw [ownF_succ (by omega)]; simp [*])), (by first | exact sub_int rfl (by omega) | rfl | exact sub_eq rfl (by rw [ownF_succ (by omega)]; simp [*])), (by first | exact sub_int rfl (by omega) | rfl | exact sub_eq rfl (by rw [ownF_succ (by omega)]; simp [*])), (by first | exact sub_int rfl (by omega) | rfl | exact sub_eq rfl (by rw [ownF_succ (by omega)]; simp [*])), trivial⟩, by rw [List.take_succ_eq_append_getElem (by simp [sixL_len]; omega), List.getElem_reverse]; simp only [List.map_append, List.map_cons, List.map_nil]; try rfl⟩
    · refine a_nil ?_
      refine tq_n ?_
      refine awp_seq ?_
      refine w_false rfl ?_
      refine awp_exit ?_
      refine tq_x ?_
      refine tq_x ?_
      refine bq_hit ?_
      refine tq_n ?_
      refine awp_seq ?_
      refine awp_seq ?_
      refine w_reg (l := r3_15.toList) rfl r3_15_ok ?_
      refine a_op rfl ((by first | exact o_fa tf30_3 rfl rfl | exact o_fap tf30_3 rfl rfl)) ?_
      refine a_op rfl ((by first | exact o_ld tg28 rfl rfl | exact o_ldp tg28 rfl rfl rfl rfl)) ?_
      refine a_op rfl (o_len rfl rfl (by first | exact List.length_map .. | rfl) tl28) ?_
      refine a_op rfl (o_mv rfl) ?_
      refine a_nil ?_
      refine tq_n ?_
      refine awp_block ?_
      refine w_loop (fun i : Nat => i ≤ (sixL 6).length) (fun iC => [(7, .ptr 0 0), (8, .sl 5 false ((rulesF l).map ruleAV)), (9, .sl 1 false ((offF fl).map intAV)), (10, .raw (.int .i64 (day % 2001))), (11, .slo 1 (iA) 0 (iA)), (13, .ptr 2 0), (71, .sl 8 false ((sixL 6).map ptAV)), (72, .raw (.int .i64 (((sixL 6).length : Nat) : Int))), (73, .raw (.int .i64 ((iC : Nat) : Int)))]) (fun _ => [.var [nilS, nilS, nilS, .sl 8 false ((sixL 6).map ptAV)], .vec 5 (iA) (((rulesF l).reverse.take iA).map ruleAV), .var [nilS, nilS, nilS, .slo 3 (iB) 0 (iB)], .vec 8 (iB) (((sixL 6).reverse.take iB).map ptAV)]) (fun i => (sixL 6).length - i) (0) (by omega) ⟨(by first | exact sub_int rfl (by omega) | rfl | exact sub_eq rfl (by rw [ownF_succ (by omega)]; simp [*])), (by first | exact sub_int rfl (by omega) | rfl | exact sub_eq rfl (by rw [ownF_succ (by omega)]; simp [*])), (by first | exact sub_int rfl (by omega) | rfl | exact sub_eq rfl (by rw [ownF_succ (by omega)]; simp [*])), (by first | exact sub_int rfl (by omega) | rfl | exact sub_eq rfl (by rw [ownF_succ (by omega)]; simp [*])), (by first | exact sub_int rfl (by omega) | rfl | exact sub_eq rfl (by rw [ownF_succ (by omega)]; simp [*])), (by first | exact sub_int rfl (by omega) | rfl | exact sub_eq rfl (by rw [ownF_succ (by omega)]; simp [*])), (by first | exact sub_int rfl (by omega) | rfl | exact sub_eq rfl (by rw [ownF_succ (by omega)]; simp [*])), (by first | exact sub_int rfl (by omega) | rfl | exact sub_eq rfl (by rw [ownF_succ (by omega)]; simp [*])), (by first | exact sub_int rfl (by omega) | rfl | exact sub_eq rfl (by rw [ownF_succ (by omega)]; simp [*])), trivial⟩ rfl ?_
      intro iC hCp
      unfold b3_3
      refine awp_seq ?_
      refine w_reg (l := r3_16.toList) rfl r3_16_ok ?_
      refine a_if rfl (o_lt rfl rfl) (fun h5 => ?_) (fun h6 => ?_)
      · refine a_nil ?_
        refine tq_n ?_
        refine awp_seq ?_
        refine w_true rfl ?_
        refine awp_skip ?_
        refine tq_n ?_
        refine awp_seq ?_
        refine awp_block ?_
        refine awp_seq ?_
        have hC : iC < (sixL 6).length := by omega
        refine w_reg (l := r3_17.toList) rfl r3_17_ok ?_
        refine a_op rfl (o_ix te28 tn39 rfl rfl rfl (ixm _ _ _ hC)) ?_
        refine a_op rfl ((by first | exact o_ldg tg39 tn39 rfl rfl | exact o_ldpg tg39 tn39 rfl rfl rfl rfl)) ?_
        refine a_op rfl (o_al (N := 4) tz39 rfl rfl rfl) ?_
        refine a_op0 rfl (o_st (N := 7) tn39 rfl rfl (by first | exact good_slo rfl | rfl | (simp [AV.goodPart, AV.good, AV.isCell, fresh, nilS, Value.oneCell']; done)) rfl rfl) ?_
        refine a_nil ?_
        refine tq_n ?_
        refine awp_seq ?_
        refine w_reg (l := r3_18.toList) rfl r3_18_ok ?_
        refine a_op rfl (o_as rfl) ?_
        refine a_nil ?_
        refine tq_n ?_
        refine awp_seq ?_
        refine awp_seq ?_
        refine w_own (q := 17) (z := 5) (N := 5) (by decide) rfl rfl rfl ?_
        refine w_reg (l := r3_19.toList) rfl r3_19_ok ?_
        refine a_op rfl (o_mv rfl) ?_
        refine a_op rfl (o_len rfl rfl (by first | exact List.length_map .. | rfl) tl32) ?_
        refine a_op rfl (o_mv rfl) ?_
        refine a_nil ?_
        refine tq_n ?_
        refine awp_block ?_
        refine w_loop (fun k : Nat => k ≤ (rulesF l).length) (fun k => [(7, .ptr 0 0), (8, .sl 5 false ((rulesF l).map ruleAV)), (9, .sl 1 false ((offF fl).map intAV)), (10, .raw (.int .i64 (day % 2001))), (11, .slo 1 (iA) 0 (iA)), (13, .ptr 2 0), (16, .ptr 4 0), (17, .slo 5 ((ownF (rulesF l) ((sixL 6)[iC]'hC).id (k)).length) 0 ((ownF (rulesF l) ((sixL 6)[iC]'hC).id (k)).length)), (71, .sl 8 false ((sixL 6).map ptAV)), (72, .raw (.int .i64 (((sixL 6).length : Nat) : Int))), (73, .raw (.int .i64 ((iC : Nat) : Int))), (77, .sl 5 false ((rulesF l).map ruleAV)), (78, .raw (.int .i64 (((rulesF l).length : Nat) : Int))), (79, .raw (.int .i64 ((k : Nat) : Int)))]) (fun k => [.var [nilS, nilS, nilS, .sl 8 false ((sixL 6).map ptAV)], .vec 5 (iA) (((rulesF l).reverse.take iA).map ruleAV), .var [nilS, nilS, nilS, .slo 3 (iB) 0 (iB)], .vec 8 (iB) (((sixL 6).reverse.take iB).map ptAV), .var (ptAV ((sixL 6)[iC]'hC)).cells, .vec 5 ((ownF (rulesF l) ((sixL 6)[iC]'hC).id (k)).length) ((ownF (rulesF l) ((sixL 6)[iC]'hC).id (k)).map ruleAV)]) (fun k => (rulesF l).length - k) (0) (by omega) ⟨(by first | exact sub_int rfl (by omega) | rfl | exact sub_eq rfl (by rw [ownF_succ (by omega)]; simp [*])), (by first | exact sub_int rfl (by omega) | rfl | exact sub_eq rfl (by rw [ownF_succ (by omega)]; simp [*])), (by first | exact sub_int rfl (by omega) | rfl | exact sub_eq rfl (by rw [ownF_succ (by omega)]; simp [*])), (by first | exact sub_int rfl (by omega) | rfl | exact sub_eq rfl (by rw [ownF_succ (by omega)]; simp [*])), (by first | exact sub_int rfl (by omega) | rfl | exact sub_eq rfl (by rw [ownF_succ (by omega)]; simp [*])), (by first | exact sub_int rfl (by omega) | rfl | exact sub_eq rfl (by rw [ownF_succ (by omega)]; simp [*])), (by first | exact sub_int rfl (by omega) | rfl | exact sub_eq rfl (by rw [ownF_succ (by omega)]; simp [*])), (by first | exact sub_int rfl (by omega) | rfl | exact sub_eq rfl (by rw [ownF_succ (by omega)]; simp [*])), (by first | exact sub_int rfl (by omega) | rfl | exact sub_eq rfl (by rw [ownF_succ (by omega)]; simp [*])), (by first | exact sub_int rfl (by omega) | rfl | exact sub_eq rfl (by rw [ownF_succ (by omega)]; simp [*])), (by first | exact sub_int rfl (by omega) | rfl | exact sub_eq rfl (by rw [ownF_succ (by omega)]; simp [*])), (by first | exact sub_int rfl (by omega) | rfl | exact sub_eq rfl (by rw [ownF_succ (by omega)]; simp [*])), (by first | exact sub_int rfl (by omega) | rfl | exact sub_eq rfl (by rw [ownF_succ (by omega)]; simp [*])), (by first | exact sub_int rfl (by omega) | rfl | exact sub_eq rfl (by rw [ownF_succ (by omega)]; simp [*])), trivial⟩ rfl ?_
        intro kD hDp
        have hoB := ownF_bd (rulesF l) ((sixL 6)[iC]'hC).id kD
        unfold b3_2
        refine awp_seq ?_
        refine w_reg (l := r3_20.toList) rfl r3_20_ok ?_
        refine a_if rfl (o_lt rfl rfl) (fun h7 => ?_) (fun h8 => ?_)
        · refine a_nil ?_
          refine tq_n ?_
          refine awp_seq ?_
          refine w_true rfl ?_
          refine awp_skip ?_
          refine tq_n ?_
          refine awp_seq ?_
          refine awp_block ?_
          refine awp_seq ?_
          have hD : kD < (rulesF l).length := by omega
          refine w_reg (l := r3_21.toList) rfl r3_21_ok ?_
          refine a_op rfl (o_ix te32 tn37 rfl rfl rfl (ixm _ _ _ hD)) ?_
          refine a_op rfl ((by first | exact o_ldg tg37 tn37 rfl rfl | exact o_ldpg tg37 tn37 rfl rfl rfl rfl)) ?_
          refine a_op rfl (o_al (N := 6) tz37 rfl rfl rfl) ?_
          refine a_op0 rfl (o_st (N := 4) tn37 rfl rfl (by first | exact good_slo rfl | rfl | (simp [AV.goodPart, AV.good, AV.isCell, fresh, nilS, Value.oneCell']; done)) rfl rfl) ?_
          refine a_nil ?_
          refine tq_n ?_
          refine awp_seq ?_
          refine w_reg (l := r3_22.toList) rfl r3_22_ok ?_
          refine a_op rfl ((by first | exact o_fa tf37_0 rfl rfl | exact o_fap tf37_0 rfl rfl)) ?_
          refine a_op rfl ((by first | exact o_ld tg3 rfl rfl | exact o_ldp tg3 rfl rfl rfl rfl)) ?_
          refine a_op rfl ((by first | exact o_fa tf39_0 rfl rfl | exact o_fap tf39_0 rfl rfl)) ?_
          refine a_op rfl ((by first | exact o_ld tg3 rfl rfl | exact o_ldp tg3 rfl rfl rfl rfl)) ?_
          refine a_if rfl (o_eq rfl rfl) (fun h9 => ?_) (fun h10 => ?_)
          · refine a_nil ?_
            refine tq_n ?_
            refine w_true rfl ?_
            refine w_reg (l := r3_23.toList) rfl r3_23_ok ?_
            refine a_op rfl (o_mv rfl) ?_
            refine a_op rfl ((by first | exact o_ldg tg37 tn37 rfl rfl | exact o_ldpg tg37 tn37 rfl rfl rfl rfl)) ?_
            refine a_op rfl (o_bs tE32 (by decide) rfl rfl rfl) ?_
            refine a_op rfl (o_ap tE32 rfl rfl (by simp) rfl rfl rfl (by simp; omega) (by simp; omega) rfl rfl rfl rfl) ?_
            refine a_op rfl (o_as rfl) ?_
            refine a_nil ?_
            refine bq_n ?_
            refine tq_n ?_
            refine w_view [(7, .ptr 0 0), (8, .sl 5 false ((rulesF l).map ruleAV)), (9, .sl 1 false ((offF fl).map intAV)), (10, .raw (.int .i64 (day % 2001))), (11, .slo 1 (iA) 0 (iA)), (13, .ptr 2 0), (16, .ptr 4 0), (17, .slo 5 ((ownF (rulesF l) ((sixL 6)[iC]'hC).id (kD)).length + 1) 0 ((ownF (rulesF l) ((sixL 6)[iC]'hC).id (kD)).length + 1)), (71, .sl 8 false ((sixL 6).map ptAV)), (72, .raw (.int .i64 (((sixL 6).length : Nat) : Int))), (73, .raw (.int .i64 ((iC : Nat) : Int))), (77, .sl 5 false ((rulesF l).map ruleAV)), (78, .raw (.int .i64 (((rulesF l).length : Nat) : Int))), (79, .raw (.int .i64 ((kD : Nat) : Int)))] ([.var [nilS, nilS, nilS, .sl 8 false ((sixL 6).map ptAV)], .vec 5 (iA) (((rulesF l).reverse.take iA).map ruleAV), .var [nilS, nilS, nilS, .slo 3 (iB) 0 (iB)], .vec 8 (iB) (((sixL 6).reverse.take iB).map ptAV), .var (ptAV ((sixL 6)[iC]'hC)).cells, .vec 5 ((ownF (rulesF l) ((sixL 6)[iC]'hC).id (kD)).length + 1) ((ownF (rulesF l) ((sixL 6)[iC]'hC).id (kD)).map ruleAV ++ [ruleAV ((rulesF l)[kD]'hD)])]) 6 rfl (Nat.le_of_ble_eq_true rfl) (Nat.le_of_ble_eq_true rfl) ⟨⟨_, rfl, (by first | exact .sloK (Nat.le_of_ble_eq_true rfl) | exact .ptrK (Nat.le_of_ble_eq_true rfl) | exact rs_pur (by simp) rfl)⟩, ⟨_, rfl, (by first | exact .sloK (Nat.le_of_ble_eq_true rfl) | exact .ptrK (Nat.le_of_ble_eq_true rfl) | exact rs_pur (by simp) rfl)⟩, ⟨_, rfl, (by first | exact .sloK (Nat.le_of_ble_eq_true rfl) | exact .ptrK (Nat.le_of_ble_eq_true rfl) | exact rs_pur (by simp) rfl)⟩, ⟨_, rfl, (by first | exact .sloK (Nat.le_of_ble_eq_true rfl) | exact .ptrK (Nat.le_of_ble_eq_true rfl) | exact rs_pur (by simp) rfl)⟩, ⟨_, rfl, (by first | exact .sloK (Nat.le_of_ble_eq_true rfl) | exact .ptrK (Nat.le_of_ble_eq_true rfl) | exact rs_pur (by simp) rfl)⟩, ⟨_, rfl, (by first | exact .sloK (Nat.le_of_ble_eq_true rfl) | exact .ptrK (Nat.le_of_ble_eq_true rfl) | exact rs_pur (by simp) rfl)⟩, ⟨_, rfl, (by first | exact .sloK (Nat.le_of_ble_eq_true rfl) | exact .ptrK (Nat.le_of_ble_eq_true rfl) | exact rs_pur (by simp) rfl)⟩, ⟨_, rfl, (by first | exact .sloK (Nat.le_of_ble_eq_true rfl) | exact .ptrK (Nat.le_of_ble_eq_true rfl) | exact rs_pur (by simp) rfl)⟩, ⟨_, rfl, (by first | exact .sloK (Nat.le_of_ble_eq_true rfl) | exact .ptrK (Nat.le_of_ble_eq_true rfl) | exact rs_pur (by simp) rfl)⟩, ⟨_, rfl, (by first | exact .sloK (Nat.le_of_ble_eq_true rfl) | exact .ptrK (Nat.le_of_ble_eq_true rfl) | exact rs_pur (by simp) rfl)⟩, ⟨_, rfl, (by first | exact .sloK (Nat.le_of_ble_eq_true rfl) | exact .ptrK (Nat.le_of_ble_eq_true rfl) | exact rs_pur (by simp) rfl)⟩, ⟨_, rfl, (by first | exact .sloK (Nat.le_of_ble_eq_true rfl) | exact .ptrK (Nat.le_of_ble_eq_true rfl) | exact rs_pur (by simp) rfl)⟩, ⟨_, rfl, (by first | exact .sloK (Nat.le_of_ble_eq_true rfl) | exact .ptrK (Nat.le_of_ble_eq_true rfl) | exact rs_pur (by simp) rfl)⟩, ⟨_, rfl, (by first | exact .sloK (Nat.le_of_ble_eq_true rfl) | exact .ptrK (Nat.le_of_ble_eq_true rfl) | exact rs_pur (by simp) rfl)⟩, trivial⟩ ⟨ors_var ⟨rs_pur (by simp [nilS]) rfl, rs_pur (by simp [nilS]) rfl, rs_pur (by simp [nilS]) rfl, rs_pur (by simp) rfl, trivial⟩, ors_vec (by first | exact pmr _ | exact pmp _ | exact pms (pmr _) (by simp) | exact pms (pmp _) (by simp)), ors_var ⟨rs_pur (by simp [nilS]) rfl, rs_pur (by simp [nilS]) rfl, rs_pur (by simp [nilS]) rfl, .sloK (Nat.le_of_ble_eq_true rfl), trivial⟩, ors_vec (by first | exact pmr _ | exact pmp _ | exact pms (pmr _) (by simp) | exact pms (pmp _) (by simp)), ors_var ⟨rs_pur (by simp) rfl, rs_pur (by simp) rfl, rs_pur (by simp) rfl, rs_pur (by simp) rfl, rs_pur (by simp) rfl, rs_pur (by simp) rfl, rs_pur (by simp) rfl, rs_pur (by simp) rfl, trivial⟩, ors_vec (by first | exact pmr _ | exact pmp _ | exact pms (pmr _) (by simp) | exact pms (pmp _) (by simp)), trivial⟩ ?_
            refine w_reg (l := r3_24.toList) rfl r3_24_ok ?_
            refine a_op rfl (o_add rfl rfl (by simp only [klo, khi]; omega)) ?_
            refine a_op rfl (o_mv rfl) ?_
            refine a_nil ?_
            refine tq_n ?_
            exact ⟨kD + 1, ⟨by omega, by omega⟩, ⟨(by first | exact sub_int rfl (by omega) | rfl | exact sub_eq rfl (by rw [ownF_succ (by omega)]; simp [*])), (by first | exact sub_int rfl (by omega) | rfl | exact sub_eq rfl (by rw [ownF_succ (by omega)]; simp [*])), (by first | exact sub_int rfl (by omega) | rfl | exact sub_eq rfl (by rw [ownF_succ (by omega)]; simp [*])), (by first | exact sub_int rfl (by omega) | rfl | exact sub_eq rfl (by rw [ownF_succ (by omega)]; simp [*])), (by first | exact sub_int rfl (by omega) | rfl | exact sub_eq rfl (by rw [ownF_succ (by omega)]; simp [*])), (by first | exact sub_int rfl (by omega) | rfl | exact sub_eq rfl (by rw [ownF_succ (by omega)]; simp [*])), (by first | exact sub_int rfl (by omega) | rfl | exact sub_eq rfl (by rw [ownF_succ (by omega)]; simp [*])), (by first | exact sub_int rfl (by omega) | rfl | exact sub_eq rfl (by rw [ownF_succ (by omega)]; simp [*])), (by first | exact sub_int rfl (by omega) | rfl | exact sub_eq rfl (by rw [ownF_succ (by omega)]; simp [*])), (by first | exact sub_int rfl (by omega) | rfl | exact sub_eq rfl (by rw [ownF_succ (by omega)]; simp [*])), (by first | exact sub_int rfl (by omega) | rfl | exact sub_eq rfl (by rw [ownF_succ (by omega)]; simp [*])), (by first | exact sub_int rfl (by omega) | rfl | exact sub_eq rfl (by rw [ownF_succ (by omega)]; simp [*])), (by first | exact sub_int rfl (by omega) | rfl | exact sub_eq rfl (by rw [ownF_succ (by omega)]; simp [*])), (by first | exact sub_int rfl (by omega) | rfl | exact sub_eq rfl (by rw [ownF_succ (by omega)]; simp [*])), trivial⟩, by rw [ownF_succ (by omega)]; simp [*]; try rfl⟩
          · refine a_nil ?_
            refine tq_n ?_
            refine w_false rfl ?_
            refine awp_skip ?_
            refine bq_n ?_
            refine tq_n ?_
            refine w_view [(7, .ptr 0 0), (8, .sl 5 false ((rulesF l).map ruleAV)), (9, .sl 1 false ((offF fl).map intAV)), (10, .raw (.int .i64 (day % 2001))), (11, .slo 1 (iA) 0 (iA)), (13, .ptr 2 0), (16, .ptr 4 0), (17, .slo 5 ((ownF (rulesF l) ((sixL 6)[iC]'hC).id (kD)).length) 0 ((ownF (rulesF l) ((sixL 6)[iC]'hC).id (kD)).length)), (71, .sl 8 false ((sixL 6).map ptAV)), (72, .raw (.int .i64 (((sixL 6).length : Nat) : Int))), (73, .raw (.int .i64 ((iC : Nat) : Int))), (77, .sl 5 false ((rulesF l).map ruleAV)), (78, .raw (.int .i64 (((rulesF l).length : Nat) : Int))), (79, .raw (.int .i64 ((kD : Nat) : Int)))] ([.var [nilS, nilS, nilS, .sl 8 false ((sixL 6).map ptAV)], .vec 5 (iA) (((rulesF l).reverse.take iA).map ruleAV), .var [nilS, nilS, nilS, .slo 3 (iB) 0 (iB)], .vec 8 (iB) (((sixL 6).reverse.take iB).map ptAV), .var (ptAV ((sixL 6)[iC]'hC)).cells, .vec 5 ((ownF (rulesF l) ((sixL 6)[iC]'hC).id (kD)).length) ((ownF (rulesF l) ((sixL 6)[iC]'hC).id (kD)).map ruleAV)]) 6 rfl (Nat.le_of_ble_eq_true rfl) (Nat.le_of_ble_eq_true rfl) ⟨⟨_, rfl, (by first | exact .sloK (Nat.le_of_ble_eq_true rfl) | exact .ptrK (Nat.le_of_ble_eq_true rfl) | exact rs_pur (by simp) rfl)⟩, ⟨_, rfl, (by first | exact .sloK (Nat.le_of_ble_eq_true rfl) | exact .ptrK (Nat.le_of_ble_eq_true rfl) | exact rs_pur (by simp) rfl)⟩, ⟨_, rfl, (by first | exact .sloK (Nat.le_of_ble_eq_true rfl) | exact .ptrK (Nat.le_of_ble_eq_true rfl) | exact rs_pur (by simp) rfl)⟩, ⟨_, rfl, (by first | exact .sloK (Nat.le_of_ble_eq_true rfl) | exact .ptrK (Nat.le_of_ble_eq_true rfl) | exact rs_pur (by simp) rfl)⟩, ⟨_, rfl, (by first | exact .sloK (Nat.le_of_ble_eq_true rfl) | exact .ptrK (Nat.le_of_ble_eq_true rfl) | exact rs_pur (by simp) rfl)⟩, ⟨_, rfl, (by first | exact .sloK (Nat.le_of_ble_eq_true rfl) | exact .ptrK (Nat.le_of_ble_eq_true rfl) | exact rs_pur (by simp) rfl)⟩, ⟨_, rfl, (by first | exact .sloK (Nat.le_of_ble_eq_true rfl) | exact .ptrK (Nat.le_of_ble_eq_true rfl) | exact rs_pur (by simp) rfl)⟩, ⟨_, rfl, (by first | exact .sloK (Nat.le_of_ble_eq_true rfl) | exact .ptrK (Nat.le_of_ble_eq_true rfl) | exact rs_pur (by simp) rfl)⟩, ⟨_, rfl, (by first | exact .sloK (Nat.le_of_ble_eq_true rfl) | exact .ptrK (Nat.le_of_ble_eq_true rfl) | exact rs_pur (by simp) rfl)⟩, ⟨_, rfl, (by first | exact .sloK (Nat.le_of_ble_eq_true rfl) | exact .ptrK (Nat.le_of_ble_eq_true rfl) | exact rs_pur (by simp) rfl)⟩, ⟨_, rfl, (by first | exact .sloK (Nat.le_of_ble_eq_true rfl) | exact .ptrK (Nat.le_of_ble_eq_true rfl) | exact rs_pur (by simp) rfl)⟩, ⟨_, rfl, (by first | exact .sloK (Nat.le_of_ble_eq_true rfl) | exact .ptrK (Nat.le_of_ble_eq_true rfl) | exact rs_pur (by simp) rfl)⟩, ⟨_, rfl, (by first | exact .sloK (Nat.le_of_ble_eq_true rfl) | exact .ptrK (Nat.le_of_ble_eq_true rfl) | exact rs_pur (by simp) rfl)⟩, ⟨_, rfl, (by first | exact .sloK (Nat.le_of_ble_eq_true rfl) | exact .ptrK (Nat.le_of_ble_eq_true rfl) | exact rs_pur (by simp) rfl)⟩, trivial⟩ ⟨ors_var ⟨rs_pur (by simp [nilS]) rfl, rs_pur (by simp [nilS]) rfl, rs_pur (by simp [nilS]) rfl, rs_pur (by simp) rfl, trivial⟩, ors_vec (by first | exact pmr _ | exact pmp _ | exact pms (pmr _) (by simp) | exact pms (pmp _) (by simp)), ors_var ⟨rs_pur (by simp [nilS]) rfl, rs_pur (by simp [nilS]) rfl, rs_pur (by simp [nilS]) rfl, .sloK (Nat.le_of_ble_eq_true rfl), trivial⟩, ors_vec (by first | exact pmr _ | exact pmp _ | exact pms (pmr _) (by simp) | exact pms (pmp _) (by simp)), ors_var ⟨rs_pur (by simp) rfl, rs_pur (by simp) rfl, rs_pur (by simp) rfl, rs_pur (by simp) rfl, rs_pur (by simp) rfl, rs_pur (by simp) rfl, rs_pur (by simp) rfl, rs_pur (by simp) rfl, trivial⟩, ors_vec (by first | exact pmr _ | exact pmp _ | exact pms (pmr _) (by simp) | exact pms (pmp _) (by simp)), trivial⟩ ?_
            refine w_reg (l := r3_24.toList) rfl r3_24_ok ?_
            refine a_op rfl (o_add rfl rfl (by simp only [klo, khi]; omega)) ?_
            refine a_op rfl (o_mv rfl) ?_
            refine a_nil ?_
            refine tq_n ?_
            exact ⟨kD + 1, ⟨by omega, by omega⟩, ⟨(by first | exact sub_int rfl (by omega) | rfl | exact sub_eq rfl (by rw [ownF_succ (by omega)]; simp [*])), (by first | exact sub_int rfl (by omega) | rfl | exact sub_eq rfl (by rw [ownF_succ (by omega)]; simp [*])), (by first | exact sub_int rfl (by omega) | rfl | exact sub_eq rfl (by rw [ownF_succ (by omega)]; simp [*])), (by first | exact sub_int rfl (by omega) | rfl | exact sub_eq rfl (by rw [ownF_succ (by omega)]; simp [*])), (by first | exact sub_int rfl (by omega) | rfl | exact sub_eq rfl (by rw [ownF_succ (by omega)]; simp [*])), (by first | exact sub_int rfl (by omega) | rfl | exact sub_eq rfl (by rw [ownF_succ (by omega)]; simp [*])), (by first | exact sub_int rfl (by omega) | rfl | exact sub_eq rfl (by rw [ownF_succ (by omega)]; simp [*])), (by first | exact sub_int rfl (by omega) | rfl | exact sub_eq rfl (by rw [ownF_succ (by omega)]; simp [*])), (by first | exact sub_int rfl (by omega) | rfl | exact sub_eq rfl (by rw [ownF_succ (by omega)]; simp [*])), (by first | exact sub_int rfl (by omega) | rfl | exact sub_eq rfl (by rw [ownF_succ (by omega)]; simp [*])), (by first | exact sub_int rfl (by omega) | rfl | exact sub_eq rfl (by rw [ownF_succ (by omega)]; simp [*])), (by first | exact sub_int rfl (by omega) | rfl | exact sub_eq rfl (by rw [ownF_succ (by omega)]; simp [*])), (by first | exact sub_int rfl (by omega) | rfl | exact sub_eq rfl (by rw [ownF_succ (by omega)]; simp [*])), (by first | exact sub_int rfl (by omega) | rfl | exact sub_eq rfl (by rw [ownF_succ (by omega)]; simp [*])), trivial⟩, by rw [ownF_succ (by omega)]; simp [*]; try rfl⟩
        · refine a_nil ?_
          refine tq_n ?_
          refine awp_seq ?_
          refine w_false rfl ?_
          refine awp_exit ?_
          refine tq_x ?_
          refine tq_x ?_
          refine bq_hit ?_
          refine tq_n ?_
          refine awp_seq ?_
          have hk : (rulesF l).take kD = (rulesF l) := List.take_of_length_le (by omega)
          have hiA : ((rulesF l).reverse.take iA) = (rulesF l).reverse := List.take_of_length_le (by simp; omega)
          have hiB : ((sixL 6).reverse.take iB) = (sixL 6).reverse := List.take_of_length_le (by simp [sixL_len]; omega)
          have hlaw := apart_law (rulesF l) fl (day % 2001) (by omega) (by omega) iC hC
          rw [← hiA, ← hiB] at hlaw
          have hlaw2 : lstat (sixL 6) (ownF (rulesF l) ((sixL 6)[iC]'hC).id (kD)) (offF fl) ((sixL 6)[iC]'hC).id (day % 2001) = lstat (sixL 6) (rulesF l) (offF fl) ((sixL 6)[iC]'hC).id (day % 2001) := by rw [ownF, hk]; exact hlaw.2.1
          refine w_reg (l := r3_25.toList) rfl r3_25_ok ?_
          refine a_op rfl ((by first | exact o_ldg tg30 tn30 rfl rfl | exact o_ldpg tg30 tn30 rfl rfl rfl rfl)) ?_
          refine a_op rfl (o_mv rfl) ?_
          refine a_op rfl (o_mv rfl) ?_
          refine a_op rfl ((by first | exact o_fa tf39_0 rfl rfl | exact o_fap tf39_0 rfl rfl)) ?_
          refine a_op rfl ((by first | exact o_ld tg3 rfl rfl | exact o_ldp tg3 rfl rfl rfl rfl)) ?_
          refine a_op rfl (o_mv rfl) ?_
          refine a_pure rfl rfl rfl cb14 (lstat_ok _ _ _ cel_nilS cel_nilS cel_nilS _ _ (by omega) _ _ (by omega) (hRx) _ _ (by omega) _ _) ?_
          refine a_op rfl (o_as rfl) ?_
          refine a_nil ?_
          refine tq_n ?_
          refine awp_seq ?_
          refine w_reg (l := r3_26.toList) rfl r3_26_ok ?_
          refine a_op rfl (o_mv rfl) ?_
          refine a_if rfl (o_eq rfl rfl) (fun h11 => ?_) (fun h12 => ?_)
          · omega
          · refine a_op rfl (o_mv rfl) ?_
            refine a_op rfl ((by first | exact o_ldg tg30 tn30 rfl rfl | exact o_ldpg tg30 tn30 rfl rfl rfl rfl)) ?_
            refine a_op rfl (o_mv rfl) ?_
            refine a_op rfl (o_mv rfl) ?_
            refine a_op rfl ((by first | exact o_fa tf39_0 rfl rfl | exact o_fap tf39_0 rfl rfl)) ?_
            refine a_op rfl ((by first | exact o_ld tg3 rfl rfl | exact o_ldp tg3 rfl rfl rfl rfl)) ?_
            refine a_op rfl (o_mv rfl) ?_
            refine a_lend (vs' := [refAV nilS nilS nilS false ((sixL 6)), .sl 5 false ((ownF (rulesF l) ((sixL 6)[iC]'hC).id (kD)).map ruleAV), .sl 1 false ((offF fl : List Int).map intAV), .raw (.int .i64 ((sixL 6)[iC]'hC).id), .raw (.int .i64 (day % 2001))]) rfl rfl rfl cb14 (lstat_ok _ _ _ cel_nilS cel_nilS cel_nilS _ _ (by omega) _ _ (by omega) (ownF_ok hRx _ _) _ _ (by omega) _ _) ⟨rs_pur (by simp [refAV, nilS]) rfl, rs_slo id rfl (by simp) (by simp) rfl, rs_pur (by simp) rfl, rs_pur (by simp) rfl, rs_pur (by simp) rfl, trivial⟩ (by simp) ?_
            refine a_op rfl (o_mv rfl) ?_
            refine a_if rfl (o_ne rfl rfl) (fun h13 => ?_) (fun h14 => ?_)
            · omega
            · refine a_op rfl (o_pkf rfl rfl) ?_
              refine a_op rfl (o_mv rfl) ?_
              refine a_op rfl ((by first | exact o_ldg tg30 tn30 rfl rfl | exact o_ldpg tg30 tn30 rfl rfl rfl rfl)) ?_
              refine a_op rfl (o_mv rfl) ?_
              refine a_op rfl (o_mv rfl) ?_
              refine a_op rfl ((by first | exact o_fa tf39_0 rfl rfl | exact o_fap tf39_0 rfl rfl)) ?_
              refine a_op rfl ((by first | exact o_ld tg3 rfl rfl | exact o_ldp tg3 rfl rfl rfl rfl)) ?_
              refine a_op rfl (o_mv rfl) ?_
              refine a_lend (vs' := [refAV nilS nilS nilS false (((sixL 6).reverse.take iB)), .sl 5 false ((((rulesF l).reverse.take iA)).map ruleAV), .sl 1 false ((offF fl : List Int).map intAV), .raw (.int .i64 ((sixL 6)[iC]'hC).id), .raw (.int .i64 (day % 2001))]) rfl rfl rfl cb14 (lstat_ok _ _ _ cel_nilS cel_nilS cel_nilS _ _ (by simp [sixL_len]; omega) _ _ (by simp; omega) (fun x h => hRx x (List.mem_reverse.1 (List.mem_of_mem_take h))) _ _ (by omega) _ _) ⟨rs_agg ⟨rs_pur (by simp [refAV, nilS]) rfl, rs_pur (by simp [refAV, nilS]) rfl, rs_pur (by simp [refAV, nilS]) rfl, rs_slo id rfl (by simp [sixL_len]; omega) (pmp _) rfl, trivial⟩, rs_slo id rfl (by simp; omega) (pmr _) rfl, rs_pur (by simp) rfl, rs_pur (by simp) rfl, rs_pur (by simp) rfl, trivial⟩ (by simp) ?_
              refine a_op rfl (o_mv rfl) ?_
              refine a_if rfl (o_ne rfl rfl) (fun h15 => ?_) (fun h16 => ?_)
              · omega
              · refine a_op rfl (o_pkf rfl rfl) ?_
                refine a_op rfl (o_mv rfl) ?_
                refine a_op rfl ((by first | exact o_fa tf39_2 rfl rfl | exact o_fap tf39_2 rfl rfl)) ?_
                refine a_op rfl ((by first | exact o_ld tg3 rfl rfl | exact o_ldp tg3 rfl rfl rfl rfl)) ?_
                refine a_if rfl (o_ne rfl rfl) (fun h17 => ?_) (fun h18 => ?_)
                · refine a_op rfl (o_mv rfl) ?_
                  refine a_op rfl ((by first | exact o_ldg tg30 tn30 rfl rfl | exact o_ldpg tg30 tn30 rfl rfl rfl rfl)) ?_
                  refine a_op rfl (o_mv rfl) ?_
                  refine a_op rfl ((by first | exact o_fa tf39_0 rfl rfl | exact o_fap tf39_0 rfl rfl)) ?_
                  refine a_op rfl ((by first | exact o_ld tg3 rfl rfl | exact o_ldp tg3 rfl rfl rfl rfl)) ?_
                  refine a_op rfl (o_mv rfl) ?_
                  refine a_lend (vs' := [refAV nilS nilS nilS false ((sixL 6)), .sl 5 false (((rulesF l)).map ruleAV), .sl 1 false (([] : List Int).map intAV), .raw (.int .i64 ((sixL 6)[iC]'hC).id), .raw (.int .i64 (day % 2001))]) rfl rfl rfl cb14 (lstat_ok _ _ _ cel_nilS cel_nilS cel_nilS _ _ (by omega) _ _ (by omega) (hRx) _ _ (by simp) _ _) ⟨rs_pur (by simp [refAV, nilS]) rfl, rs_pur (by simp) rfl, .nil (by decide), rs_pur (by simp) rfl, rs_pur (by simp) rfl, trivial⟩ (by simp) ?_
                  refine a_op rfl (o_mv rfl) ?_
                  refine a_if rfl (o_ne rfl rfl) (fun h19 => ?_) (fun h20 => ?_)
                  · exact absurd (hlaw.2.2.2 (by assumption)) (by assumption)
                  · refine a_op rfl (o_pkt rfl rfl) ?_
                    refine a_op rfl (o_pkf rfl rfl) ?_
                    refine a_nil ?_
                    refine tq_n ?_
                    refine w_false rfl ?_
                    refine awp_skip ?_
                    refine bq_n ?_
                    refine tq_n ?_
                    refine w_view [(7, .ptr 0 0), (8, .sl 5 false ((rulesF l).map ruleAV)), (9, .sl 1 false ((offF fl).map intAV)), (10, .raw (.int .i64 (day % 2001))), (11, .slo 1 (iA) 0 (iA)), (13, .ptr 2 0), (71, .sl 8 false ((sixL 6).map ptAV)), (72, .raw (.int .i64 (((sixL 6).length : Nat) : Int))), (73, .raw (.int .i64 ((iC : Nat) : Int)))] ([.var [nilS, nilS, nilS, .sl 8 false ((sixL 6).map ptAV)], .vec 5 (iA) (((rulesF l).reverse.take iA).map ruleAV), .var [nilS, nilS, nilS, .slo 3 (iB) 0 (iB)], .vec 8 (iB) (((sixL 6).reverse.take iB).map ptAV)]) 4 rfl (Nat.le_of_ble_eq_true rfl) (Nat.le_of_ble_eq_true rfl) ⟨⟨_, rfl, (by first | exact .sloK (Nat.le_of_ble_eq_true rfl) | exact .ptrK (Nat.le_of_ble_eq_true rfl) | exact rs_pur (by simp) rfl)⟩, ⟨_, rfl, (by first | exact .sloK (Nat.le_of_ble_eq_true rfl) | exact .ptrK (Nat.le_of_ble_eq_true rfl) | exact rs_pur (by simp) rfl)⟩, ⟨_, rfl, (by first | exact .sloK (Nat.le_of_ble_eq_true rfl) | exact .ptrK (Nat.le_of_ble_eq_true rfl) | exact rs_pur (by simp) rfl)⟩, ⟨_, rfl, (by first | exact .sloK (Nat.le_of_ble_eq_true rfl) | exact .ptrK (Nat.le_of_ble_eq_true rfl) | exact rs_pur (by simp) rfl)⟩, ⟨_, rfl, (by first | exact .sloK (Nat.le_of_ble_eq_true rfl) | exact .ptrK (Nat.le_of_ble_eq_true rfl) | exact rs_pur (by simp) rfl)⟩, ⟨_, rfl, (by first | exact .sloK (Nat.le_of_ble_eq_true rfl) | exact .ptrK (Nat.le_of_ble_eq_true rfl) | exact rs_pur (by simp) rfl)⟩, ⟨_, rfl, (by first | exact .sloK (Nat.le_of_ble_eq_true rfl) | exact .ptrK (Nat.le_of_ble_eq_true rfl) | exact rs_pur (by simp) rfl)⟩, ⟨_, rfl, (by first | exact .sloK (Nat.le_of_ble_eq_true rfl) | exact .ptrK (Nat.le_of_ble_eq_true rfl) | exact rs_pur (by simp) rfl)⟩, ⟨_, rfl, (by first | exact .sloK (Nat.le_of_ble_eq_true rfl) | exact .ptrK (Nat.le_of_ble_eq_true rfl) | exact rs_pur (by simp) rfl)⟩, trivial⟩ ⟨ors_var ⟨rs_pur (by simp [nilS]) rfl, rs_pur (by simp [nilS]) rfl, rs_pur (by simp [nilS]) rfl, rs_pur (by simp) rfl, trivial⟩, ors_vec (by first | exact pmr _ | exact pmp _ | exact pms (pmr _) (by simp) | exact pms (pmp _) (by simp)), ors_var ⟨rs_pur (by simp [nilS]) rfl, rs_pur (by simp [nilS]) rfl, rs_pur (by simp [nilS]) rfl, .sloK (Nat.le_of_ble_eq_true rfl), trivial⟩, ors_vec (by first | exact pmr _ | exact pmp _ | exact pms (pmr _) (by simp) | exact pms (pmp _) (by simp)), trivial⟩ ?_
                    refine w_reg (l := r3_28.toList) rfl r3_28_ok ?_
                    refine a_op rfl (o_add rfl rfl (by simp only [klo, khi]; omega)) ?_
                    refine a_op rfl (o_mv rfl) ?_
                    refine a_nil ?_
                    refine tq_n ?_
                    exact ⟨iC + 1, ⟨by omega, by omega⟩, ⟨(by first | exact sub_int rfl (by omega) | rfl | exact sub_eq rfl (by rw [ownF_succ (by omega)]; simp [*])), (by first | exact sub_int rfl (by omega) | rfl | exact sub_eq rfl (by rw [ownF_succ (by omega)]; simp [*])), (by first | exact sub_int rfl (by omega) | rfl | exact sub_eq rfl (by rw [ownF_succ (by omega)]; simp [*])), (by first | exact sub_int rfl (by omega) | rfl | exact sub_eq rfl (by rw [ownF_succ (by omega)]; simp [*])), (by first | exact sub_int rfl (by omega) | rfl | exact sub_eq rfl (by rw [ownF_succ (by omega)]; simp [*])), (by first | exact sub_int rfl (by omega) | rfl | exact sub_eq rfl (by rw [ownF_succ (by omega)]; simp [*])), (by first | exact sub_int rfl (by omega) | rfl | exact sub_eq rfl (by rw [ownF_succ (by omega)]; simp [*])), (by first | exact sub_int rfl (by omega) | rfl | exact sub_eq rfl (by rw [ownF_succ (by omega)]; simp [*])), (by first | exact sub_int rfl (by omega) | rfl | exact sub_eq rfl (by rw [ownF_succ (by omega)]; simp [*])), trivial⟩, rfl⟩
                · refine a_op rfl (o_mv rfl) ?_
                  refine a_off rfl ?_
                  refine a_off rfl ?_
                  refine a_off rfl ?_
                  refine a_off rfl ?_
                  refine a_off rfl ?_
                  refine a_off rfl ?_
                  refine a_off rfl ?_
                  refine a_off rfl ?_
                  refine a_op rfl (o_pkf rfl rfl) ?_
                  refine a_op rfl (o_pkf rfl rfl) ?_
                  refine a_nil ?_
                  refine tq_n ?_
                  refine w_false rfl ?_
                  refine awp_skip ?_
                  refine bq_n ?_
                  refine tq_n ?_
                  refine w_view [(7, .ptr 0 0), (8, .sl 5 false ((rulesF l).map ruleAV)), (9, .sl 1 false ((offF fl).map intAV)), (10, .raw (.int .i64 (day % 2001))), (11, .slo 1 (iA) 0 (iA)), (13, .ptr 2 0), (71, .sl 8 false ((sixL 6).map ptAV)), (72, .raw (.int .i64 (((sixL 6).length : Nat) : Int))), (73, .raw (.int .i64 ((iC : Nat) : Int)))] ([.var [nilS, nilS, nilS, .sl 8 false ((sixL 6).map ptAV)], .vec 5 (iA) (((rulesF l).reverse.take iA).map ruleAV), .var [nilS, nilS, nilS, .slo 3 (iB) 0 (iB)], .vec 8 (iB) (((sixL 6).reverse.take iB).map ptAV)]) 4 rfl (Nat.le_of_ble_eq_true rfl) (Nat.le_of_ble_eq_true rfl) ⟨⟨_, rfl, (by first | exact .sloK (Nat.le_of_ble_eq_true rfl) | exact .ptrK (Nat.le_of_ble_eq_true rfl) | exact rs_pur (by simp) rfl)⟩, ⟨_, rfl, (by first | exact .sloK (Nat.le_of_ble_eq_true rfl) | exact .ptrK (Nat.le_of_ble_eq_true rfl) | exact rs_pur (by simp) rfl)⟩, ⟨_, rfl, (by first | exact .sloK (Nat.le_of_ble_eq_true rfl) | exact .ptrK (Nat.le_of_ble_eq_true rfl) | exact rs_pur (by simp) rfl)⟩, ⟨_, rfl, (by first | exact .sloK (Nat.le_of_ble_eq_true rfl) | exact .ptrK (Nat.le_of_ble_eq_true rfl) | exact rs_pur (by simp) rfl)⟩, ⟨_, rfl, (by first | exact .sloK (Nat.le_of_ble_eq_true rfl) | exact .ptrK (Nat.le_of_ble_eq_true rfl) | exact rs_pur (by simp) rfl)⟩, ⟨_, rfl, (by first | exact .sloK (Nat.le_of_ble_eq_true rfl) | exact .ptrK (Nat.le_of_ble_eq_true rfl) | exact rs_pur (by simp) rfl)⟩, ⟨_, rfl, (by first | exact .sloK (Nat.le_of_ble_eq_true rfl) | exact .ptrK (Nat.le_of_ble_eq_true rfl) | exact rs_pur (by simp) rfl)⟩, ⟨_, rfl, (by first | exact .sloK (Nat.le_of_ble_eq_true rfl) | exact .ptrK (Nat.le_of_ble_eq_true rfl) | exact rs_pur (by simp) rfl)⟩, ⟨_, rfl, (by first | exact .sloK (Nat.le_of_ble_eq_true rfl) | exact .ptrK (Nat.le_of_ble_eq_true rfl) | exact rs_pur (by simp) rfl)⟩, trivial⟩ ⟨ors_var ⟨rs_pur (by simp [nilS]) rfl, rs_pur (by simp [nilS]) rfl, rs_pur (by simp [nilS]) rfl, rs_pur (by simp) rfl, trivial⟩, ors_vec (by first | exact pmr _ | exact pmp _ | exact pms (pmr _) (by simp) | exact pms (pmp _) (by simp)), ors_var ⟨rs_pur (by simp [nilS]) rfl, rs_pur (by simp [nilS]) rfl, rs_pur (by simp [nilS]) rfl, .sloK (Nat.le_of_ble_eq_true rfl), trivial⟩, ors_vec (by first | exact pmr _ | exact pmp _ | exact pms (pmr _) (by simp) | exact pms (pmp _) (by simp)), trivial⟩ ?_
                  refine w_reg (l := r3_28.toList) rfl r3_28_ok ?_
                  refine a_op rfl (o_add rfl rfl (by simp only [klo, khi]; omega)) ?_
                  refine a_op rfl (o_mv rfl) ?_
                  refine a_nil ?_
                  refine tq_n ?_
                  exact ⟨iC + 1, ⟨by omega, by omega⟩, ⟨(by first | exact sub_int rfl (by omega) | rfl | exact sub_eq rfl (by rw [ownF_succ (by omega)]; simp [*])), (by first | exact sub_int rfl (by omega) | rfl | exact sub_eq rfl (by rw [ownF_succ (by omega)]; simp [*])), (by first | exact sub_int rfl (by omega) | rfl | exact sub_eq rfl (by rw [ownF_succ (by omega)]; simp [*])), (by first | exact sub_int rfl (by omega) | rfl | exact sub_eq rfl (by rw [ownF_succ (by omega)]; simp [*])), (by first | exact sub_int rfl (by omega) | rfl | exact sub_eq rfl (by rw [ownF_succ (by omega)]; simp [*])), (by first | exact sub_int rfl (by omega) | rfl | exact sub_eq rfl (by rw [ownF_succ (by omega)]; simp [*])), (by first | exact sub_int rfl (by omega) | rfl | exact sub_eq rfl (by rw [ownF_succ (by omega)]; simp [*])), (by first | exact sub_int rfl (by omega) | rfl | exact sub_eq rfl (by rw [ownF_succ (by omega)]; simp [*])), (by first | exact sub_int rfl (by omega) | rfl | exact sub_eq rfl (by rw [ownF_succ (by omega)]; simp [*])), trivial⟩, rfl⟩
      · refine a_nil ?_
        refine tq_n ?_
        refine awp_seq ?_
        refine w_false rfl ?_
        refine awp_exit ?_
        refine tq_x ?_
        refine tq_x ?_
        refine bq_hit ?_
        refine tq_n ?_
        refine awp_seq ?_
        refine w_reg (l := r3_29.toList) rfl r3_29_ok ?_
        refine a_pure rfl rfl rfl cb15 (awake_ok) ?_
        refine a_op rfl (o_as rfl) ?_
        refine a_nil ?_
        refine tq_n ?_
        refine awp_ret ?_
        refine r_one rfl ⟨rfl, trivial⟩ ?_
        exact rs_pur (by simp) rfl
end Go.Ab.D
