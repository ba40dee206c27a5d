/- What functions of this program compute, and the laws of what they compute, under the bounds on lengths that each contract states. -/
import Derived.Test.YtghoaglolhdoeaaDoorD6
import Derived.Test.YtghoaglolhdoeaaDoorAb27
set_option linter.unusedSimpArgs false
set_option linter.unusedVariables false
namespace Go.Ab.D
open Go Go.Ab Go.Proofs
def strAV (s : ByteArray) : AV := .raw (.string s)
@[simp] theorem pur_str (s : ByteArray) : Pur (strAV s) ↔ True := by simp [strAV]
structure RangeR where
  town : Int
  street : Int
  low : Int
  high : Int
  parity : Int
  code : ByteArray
  route : Int
def rangeAV (r : RangeR) : AV := .agg [.raw (.int .i64 r.town), .raw (.int .i64 r.street), .raw (.int .i64 r.low), .raw (.int .i64 r.high), .raw (.int .u8 r.parity), .raw (.string r.code), .raw (.int .i64 r.route)]
@[simp] theorem pur_range (r : RangeR) : Pur (rangeAV r) ↔ True := by simp [rangeAV]
def mk1 (i : Int) : Int := 1000003 * (1 + 7) + i
def mkText (i : Int) : ByteArray := textOf [35, 1, 0, 0, 47, i, 0, 0]
def mkRule (i : Int) : RuleR := ⟨mk1 i, 0, 0, 0, 0⟩
def mkPt (i : Int) : PtR := ⟨mk1 i, 0, 0, 0, { data := #[] }, { data := #[] }, 0, 0⟩
def mkRange (i : Int) : RangeR := ⟨0, 0, mk1 i, 0, 0, { data := #[] }, 0⟩
def mks {α : Type} (g : Int → α) (n : Nat) : List α := (List.range n).map fun i : Nat => g (i : Int)
theorem mks_succ {α : Type} (g : Int → α) (n : Nat) : mks g (n + 1) = mks g n ++ [g (n : Int)] := by simp [mks, List.range_succ]
theorem mks_len {α : Type} (g : Int → α) (n : Nat) : (mks g n).length = n := by simp [mks]
theorem at_lo {α : Type} (f : α → AV) {l m : List α} {i : Nat} (h : i < l.length) : ((l ++ m).map f)[i]? = some (f l[i]) := by
  rw [List.getElem?_map, List.getElem?_append_left h, List.getElem?_eq_getElem h]; rfl
theorem at_hi {α : Type} (f : α → AV) (g : Int → α) {l : List α} {i n : Nat} (h : l.length ≤ i) (h2 : i < l.length + n) : ((l ++ mks g n).map f)[i]? = some (f (g ((i : Int) - (l.length : Int)))) := by
  rw [List.getElem?_map, List.getElem?_append_right h, List.getElem?_eq_getElem (by rw [mks_len]; omega)]
  simp only [mks, List.getElem_map, List.getElem_range, Option.map_some]
  congr 2; congr 1; omega
theorem eq37 : EqOk Tryd.prog 37 := ⟨by kernel_rfl, by kernel_rfl, by kernel_rfl⟩
theorem eq39 : EqOk Tryd.prog 39 := ⟨by kernel_rfl, by kernel_rfl, by kernel_rfl⟩
theorem eq121 : EqOk Tryd.prog 121 := ⟨by kernel_rfl, by kernel_rfl, by kernel_rfl⟩
theorem scs37 (a b c d e : Int) : scs Tryd.prog [.int .i64 a, .int .u8 b, .int .i64 c, .int .i64 d, .int .u8 e] (Tryd.prog.fieldsOf 37).toList = true := by kernel_rfl
theorem scs39 (a b c d : Int) (s t : ByteArray) (e f : Int) : scs Tryd.prog [.int .i64 a, .int .i64 b, .int .i64 c, .int .i64 d, .string s, .string t, .int .i64 e, .int .i64 f] (Tryd.prog.fieldsOf 39).toList = true := by kernel_rfl
theorem scs121 (a b c d e : Int) (s : ByteArray) (f : Int) : scs Tryd.prog [.int .i64 a, .int .i64 b, .int .i64 c, .int .i64 d, .int .u8 e, .string s, .int .i64 f] (Tryd.prog.fieldsOf 121).toList = true := by kernel_rfl
theorem u9 : Tryd.prog.underlying 9 = some .string := by kernel_rfl
theorem u5 : Tryd.prog.underlying 5 = some (.int .u8) := by kernel_rfl
theorem pur1 {a : AV} (h : Pur a) : ∀ x ∈ [a], Pur x := by intro x hx; rw [List.mem_singleton.1 hx]; exact h
theorem pur2 {a b : AV} (h : Pur a) (h2 : Pur b) : ∀ x ∈ [a, b], Pur x := by
  intro x hx
  rcases List.mem_cons.1 hx with rfl | hx
  · exact h
  · rw [List.mem_singleton.1 hx]; exact h2
theorem good_str (H : Heap) (l : List ByteArray) : (l.map strAV).all (AV.goodPart H) = true := List.all_eq_true.2 (by intro y hy; obtain ⟨a, _, rfl⟩ := List.mem_map.1 hy; rfl)
theorem pu_str (l : List ByteArray) : ∀ x ∈ l.map strAV, Pur x := by simp
theorem good_rul (H : Heap) (l : List RuleR) : (l.map ruleAV).all (AV.goodPart H) = true := List.all_eq_true.2 (by intro y hy; obtain ⟨a, _, rfl⟩ := List.mem_map.1 hy; rfl)
theorem pu_rul (l : List RuleR) : ∀ x ∈ l.map ruleAV, Pur x := by simp
theorem good_ptr (H : Heap) (l : List PtR) : (l.map ptAV).all (AV.goodPart H) = true := List.all_eq_true.2 (by intro y hy; obtain ⟨a, _, rfl⟩ := List.mem_map.1 hy; rfl)
theorem pu_ptr (l : List PtR) : ∀ x ∈ l.map ptAV, Pur x := by simp
theorem good_rng (H : Heap) (l : List RangeR) : (l.map rangeAV).all (AV.goodPart H) = true := List.all_eq_true.2 (by intro y hy; obtain ⟨a, _, rfl⟩ := List.mem_map.1 hy; rfl)
theorem pu_rng (l : List RangeR) : ∀ x ∈ l.map rangeAV, Pur x := by simp
noncomputable def r74_0 : Array Oper := opsAt Tryd.f74 [0]
theorem r74_0_ok : dstOk 10 r74_0.toList = true ∧ r74_0.toList.all (fun o => noDefer o.op) = true := by decide +kernel
noncomputable def r74_1 : Array Oper := opsAt Tryd.f74 [1, 0]
theorem r74_1_ok : dstOk 10 r74_1.toList = true ∧ r74_1.toList.all (fun o => noDefer o.op) = true := by decide +kernel
noncomputable def c74 : Code := (.seq (.region 0 r74_0 false) (.seq (.region 1 r74_1 false) .ret))
theorem body74 : Tryd.f74.body = some c74 := by kernel_rfl
theorem mark_ok (i : Int) (h0 : 0 ≤ i) (h1 : i < 12) : PureCall Tryd.prog GL 74 [.raw (.int .i64 1), .raw (.int .i64 i)] (.raw (.int .i64 (mk1 i))) := by
  refine pure_of_body Tryd.func74 body74 (Nat.le_of_ble_eq_true rfl) (by simp) (by simp) ?_
  refine w_keep [(0, .raw (.int .i64 1)), (1, .raw (.int .i64 i))] ⟨rfl, rfl, trivial⟩ ?_
  unfold c74
  refine awp_seq ?_
  refine w_reg (l := r74_0.toList) rfl r74_0_ok ?_
  refine a_op rfl (o_as rfl) ?_
  refine a_nil ?_
  refine tq_n ?_
  refine awp_seq ?_
  refine w_reg (l := r74_1.toList) rfl r74_1_ok ?_
  refine a_op rfl (o_mv rfl) ?_
  refine a_op rfl (o_add rfl rfl (by simp only [klo, khi]; omega)) ?_
  refine a_op rfl (o_mul rfl rfl (by simp only [klo, khi]; omega)) ?_
  refine a_op rfl (o_mv rfl) ?_
  refine a_op rfl (o_add rfl rfl (by simp only [klo, khi]; omega)) ?_
  refine a_op rfl (o_as rfl) ?_
  refine a_nil ?_
  refine tq_n ?_
  refine awp_ret ?_
  refine r_one rfl ⟨rfl, trivial⟩ ?_
  exact rs_pur (by simp) rfl
theorem sh0 (i : Int) (n : Int) (h0 : 0 ≤ i) (h1 : i < 12) (hn : n = 8 ∨ n = 16) : i / 2 ^ min n.toNat IntKind.i64.bits = 0 := by
  rcases hn with rfl | rfl
  · rw [show (2 : Int) ^ min (8 : Int).toNat IntKind.i64.bits = 256 by decide]; omega
  · rw [show (2 : Int) ^ min (16 : Int).toNat IntKind.i64.bits = 65536 by decide]; omega
noncomputable def r116_0 : Array Oper := opsAt Tryd.f116 [0]
theorem r116_0_ok : dstOk 23 r116_0.toList = true ∧ r116_0.toList.all (fun o => noDefer o.op) = true := by decide +kernel
noncomputable def r116_1 : Array Oper := opsAt Tryd.f116 [1, 0]
theorem r116_1_ok : dstOk 23 r116_1.toList = true ∧ r116_1.toList.all (fun o => noDefer o.op) = true := by decide +kernel
noncomputable def c116 : Code := (.seq (.region 0 r116_0 false) (.seq (.region 1 r116_1 false) .ret))
theorem body116 : Tryd.f116.body = some c116 := by kernel_rfl
theorem mkText_ok (i : Int) (h0 : 0 ≤ i) (h1 : i < 12) : PureCall Tryd.prog GL 116 [.raw (.int .i64 1), .raw (.int .i64 i)] (.raw (.string (mkText i))) := by
  refine pure_of_body Tryd.func116 body116 (Nat.le_of_ble_eq_true rfl) (by simp) (by simp) ?_
  refine w_keep [(0, .raw (.int .i64 1)), (1, .raw (.int .i64 i))] ⟨rfl, rfl, trivial⟩ ?_
  unfold c116
  refine awp_seq ?_
  refine w_reg (l := r116_0.toList) rfl r116_0_ok ?_
  refine a_op rfl (o_as rfl) ?_
  refine a_nil ?_
  refine tq_n ?_
  refine awp_seq ?_
  refine w_reg (l := r116_1.toList) rfl r116_1_ok ?_
  refine a_op rfl (o_mv rfl) ?_
  refine a_op rfl (o_cv tk3 tk5 rfl (by simp only [klo, khi]; omega)) ?_
  refine a_op rfl (o_mv rfl) ?_
  refine a_op rfl (elD (w := .raw (.int .i64 0)) (o_shr rfl rfl (by decide)) (by rw [sh0 1 8 (by decide) (by decide) (.inl rfl)])) ?_
  refine a_op rfl (o_cv tk3 tk5 rfl (by simp only [klo, khi]; omega)) ?_
  refine a_op rfl (o_mv rfl) ?_
  refine a_op rfl (elD (w := .raw (.int .i64 0)) (o_shr rfl rfl (by decide)) (by rw [sh0 1 16 (by decide) (by decide) (.inr rfl)])) ?_
  refine a_op rfl (o_cv tk3 tk5 rfl (by simp only [klo, khi]; omega)) ?_
  refine a_op rfl (o_mv rfl) ?_
  refine a_op rfl (o_cv tk3 tk5 rfl (by simp only [klo, khi]; omega)) ?_
  refine a_op rfl (o_mv rfl) ?_
  refine a_op rfl (elD (w := .raw (.int .i64 0)) (o_shr rfl rfl (by decide)) (by rw [sh0 i 8 h0 h1 (.inl rfl)])) ?_
  refine a_op rfl (o_cv tk3 tk5 rfl (by simp only [klo, khi]; omega)) ?_
  refine a_op rfl (o_mv rfl) ?_
  refine a_op rfl (elD (w := .raw (.int .i64 0)) (o_shr rfl rfl (by decide)) (by rw [sh0 i 16 h0 h1 (.inr rfl)])) ?_
  refine a_op rfl (o_cv tk3 tk5 rfl (by simp only [klo, khi]; omega)) ?_
  refine a_op rfl (o_bs tE23 (by decide) rfl rfl rfl) ?_
  refine a_op rfl (o_b2s te23 u5 u9 rfl rfl) ?_
  refine a_op rfl (o_as rfl) ?_
  refine a_nil ?_
  refine tq_n ?_
  refine awp_ret ?_
  refine r_one rfl ⟨rfl, trivial⟩ ?_
  exact rs_pur (by simp) rfl
noncomputable def r45_0 : Array Oper := opsAt Tryd.f45 [0]
theorem r45_0_ok : dstOk 9 r45_0.toList = true ∧ r45_0.toList.all (fun o => noDefer o.op) = true := by decide +kernel
noncomputable def r45_1 : Array Oper := opsAt Tryd.f45 [1, 0]
theorem r45_1_ok : dstOk 9 r45_1.toList = true ∧ r45_1.toList.all (fun o => noDefer o.op) = true := by decide +kernel
noncomputable def c45 : Code := (.seq (.region 0 r45_0 false) (.seq (.region 1 r45_1 false) .ret))
theorem body45 : Tryd.f45.body = some c45 := by kernel_rfl
theorem mkRule_ok (i : Int) (h0 : 0 ≤ i) (h1 : i < 12) : PureCall Tryd.prog GL 45 [.raw (.int .i64 1), .raw (.int .i64 i)] (ruleAV (mkRule i)) := by
  refine pure_of_body Tryd.func45 body45 (Nat.le_of_ble_eq_true rfl) (by simp) (by simp) ?_
  refine w_keep [(0, .raw (.int .i64 1)), (1, .raw (.int .i64 i))] ⟨rfl, rfl, trivial⟩ ?_
  unfold c45
  refine awp_seq ?_
  refine w_reg (l := r45_0.toList) rfl r45_0_ok ?_
  refine a_op rfl (o_al (N := 0) tz37 rfl rfl rfl) ?_
  refine a_nil ?_
  refine tq_n ?_
  refine awp_seq ?_
  refine w_reg (l := r45_1.toList) rfl r45_1_ok ?_
  refine a_op rfl (o_mv rfl) ?_
  refine a_op rfl (o_mv rfl) ?_
  refine a_pure rfl rfl rfl cb74 (mark_ok _ h0 h1) ?_
  refine a_op rfl (o_bd tz37 rfl tp37 rfl rfl) ?_
  refine a_op0 rfl (o_st (N := 4) tn37 rfl rfl (by first | rfl | (simp [AV.goodPart, AV.good, AV.isCell, fresh, Value.oneCell']; done)) rfl rfl) ?_
  refine a_nil ?_
  refine tq_n ?_
  refine awp_ret ?_
  refine r_one rfl ⟨c_ag tg37 tn37 rfl rfl, trivial⟩ ?_
  exact rs_pur (by simp) rfl
noncomputable def r72_0 : Array Oper := opsAt Tryd.f72 [0]
theorem r72_0_ok : dstOk 9 r72_0.toList = true ∧ r72_0.toList.all (fun o => noDefer o.op) = true := by decide +kernel
noncomputable def r72_1 : Array Oper := opsAt Tryd.f72 [1, 0]
theorem r72_1_ok : dstOk 9 r72_1.toList = true ∧ r72_1.toList.all (fun o => noDefer o.op) = true := by decide +kernel
noncomputable def c72 : Code := (.seq (.region 0 r72_0 false) (.seq (.region 1 r72_1 false) .ret))
theorem body72 : Tryd.f72.body = some c72 := by kernel_rfl
theorem mkRange_ok (i : Int) (h0 : 0 ≤ i) (h1 : i < 12) : PureCall Tryd.prog GL 72 [.raw (.int .i64 1), .raw (.int .i64 i)] (rangeAV (mkRange i)) := by
  refine pure_of_body Tryd.func72 body72 (Nat.le_of_ble_eq_true rfl) (by simp) (by simp) ?_
  refine w_keep [(0, .raw (.int .i64 1)), (1, .raw (.int .i64 i))] ⟨rfl, rfl, trivial⟩ ?_
  unfold c72
  refine awp_seq ?_
  refine w_reg (l := r72_0.toList) rfl r72_0_ok ?_
  refine a_op rfl (o_al (N := 0) tz121 rfl rfl rfl) ?_
  refine a_nil ?_
  refine tq_n ?_
  refine awp_seq ?_
  refine w_reg (l := r72_1.toList) rfl r72_1_ok ?_
  refine a_op rfl (o_mv rfl) ?_
  refine a_op rfl (o_mv rfl) ?_
  refine a_pure rfl rfl rfl cb74 (mark_ok _ h0 h1) ?_
  refine a_op rfl (o_bd tz121 rfl tp121 rfl rfl) ?_
  refine a_op0 rfl (o_st (N := 6) tn121 rfl rfl (by first | rfl | (simp [AV.goodPart, AV.good, AV.isCell, fresh, Value.oneCell']; done)) rfl rfl) ?_
  refine a_nil ?_
  refine tq_n ?_
  refine awp_ret ?_
  refine r_one rfl ⟨c_ag tg121 tn121 rfl rfl, trivial⟩ ?_
  exact rs_pur (by simp) rfl
noncomputable def r73_0 : Array Oper := opsAt Tryd.f73 [0]
theorem r73_0_ok : dstOk 9 r73_0.toList = true ∧ r73_0.toList.all (fun o => noDefer o.op) = true := by decide +kernel
noncomputable def r73_1 : Array Oper := opsAt Tryd.f73 [1, 0]
theorem r73_1_ok : dstOk 9 r73_1.toList = true ∧ r73_1.toList.all (fun o => noDefer o.op) = true := by decide +kernel
noncomputable def c73 : Code := (.seq (.region 0 r73_0 false) (.seq (.region 1 r73_1 false) .ret))
theorem body73 : Tryd.f73.body = some c73 := by kernel_rfl
theorem mkPt_ok (i : Int) (h0 : 0 ≤ i) (h1 : i < 12) : PureCall Tryd.prog GL 73 [.raw (.int .i64 1), .raw (.int .i64 i)] (ptAV (mkPt i)) := by
  refine pure_of_body Tryd.func73 body73 (Nat.le_of_ble_eq_true rfl) (by simp) (by simp) ?_
  refine w_keep [(0, .raw (.int .i64 1)), (1, .raw (.int .i64 i))] ⟨rfl, rfl, trivial⟩ ?_
  unfold c73
  refine awp_seq ?_
  refine w_reg (l := r73_0.toList) rfl r73_0_ok ?_
  refine a_op rfl (o_al (N := 0) tz39 rfl rfl rfl) ?_
  refine a_nil ?_
  refine tq_n ?_
  refine awp_seq ?_
  refine w_reg (l := r73_1.toList) rfl r73_1_ok ?_
  refine a_op rfl (o_mv rfl) ?_
  refine a_op rfl (o_mv rfl) ?_
  refine a_pure rfl rfl rfl cb74 (mark_ok _ h0 h1) ?_
  refine a_op rfl (o_bd tz39 rfl tp39 rfl rfl) ?_
  refine a_op0 rfl (o_st (N := 7) tn39 rfl rfl (by first | rfl | (simp [AV.goodPart, AV.good, AV.isCell, fresh, Value.oneCell']; done)) rfl rfl) ?_
  refine a_nil ?_
  refine tq_n ?_
  refine awp_ret ?_
  refine r_one rfl ⟨c_ag tg39 tn39 rfl rfl, trivial⟩ ?_
  exact rs_pur (by simp) rfl
noncomputable def r101_0 : Array Oper := opsAt Tryd.f101 [0]
theorem r101_0_ok : dstOk 25 r101_0.toList = true ∧ r101_0.toList.all (fun o => noDefer o.op) = true := by decide +kernel
noncomputable def r101_1 : Array Oper := opsAt Tryd.f101 [1, 0]
theorem r101_1_ok : dstOk 25 r101_1.toList = true ∧ r101_1.toList.all (fun o => noDefer o.op) = true := by decide +kernel
noncomputable def r101_2 : Array Oper := opsAt Tryd.f101 [1, 1, 0]
theorem r101_2_ok : dstOk 25 r101_2.toList = true ∧ r101_2.toList.all (fun o => noDefer o.op) = true := by decide +kernel
noncomputable def r101_3 : Array Oper := opsAt Tryd.f101 [1, 1, 1, 0, 0]
theorem r101_3_ok : dstOk 25 r101_3.toList = true ∧ r101_3.toList.all (fun o => noDefer o.op) = true := by decide +kernel
noncomputable def r101_4 : Array Oper := opsAt Tryd.f101 [1, 1, 1, 0, 1, 0, 0, 0, 0]
theorem r101_4_ok : dstOk 25 r101_4.toList = true ∧ r101_4.toList.all (fun o => noDefer o.op) = true := by decide +kernel
noncomputable def r101_6 : Array Oper := opsAt Tryd.f101 [1, 1, 1, 0, 1, 0, 0, 1, 0, 0]
theorem r101_6_ok : dstOk 25 r101_6.toList = true ∧ r101_6.toList.all (fun o => noDefer o.op) = true := by decide +kernel
noncomputable def r101_5 : Array Oper := opsAt Tryd.f101 [1, 1, 1, 0, 1, 0, 0, 1, 1]
theorem r101_5_ok : dstOk 25 r101_5.toList = true ∧ r101_5.toList.all (fun o => noDefer o.op) = true := by decide +kernel
noncomputable def b101_0 : Code := (.seq (.seq (.region 4 r101_4 false) (.cond (.tmp 13) .skip (.exit 0))) (.seq (.block 1 (.region 6 r101_6 false)) (.region 5 r101_5 false)))
noncomputable def r101_7 : Array Oper := opsAt Tryd.f101 [1, 1, 1, 1, 0]
theorem r101_7_ok : dstOk 25 r101_7.toList = true ∧ r101_7.toList.all (fun o => noDefer o.op) = true := by decide +kernel
noncomputable def c101 : Code := (.seq (.region 0 r101_0 false) (.seq (.region 1 r101_1 false) (.seq (.region 2 r101_2 false) (.seq (.seq (.region 3 r101_3 false) (.block 0 (.loop b101_0))) (.seq (.region 7 r101_7 false) .ret)))))
theorem body101 : Tryd.f101.body = some c101 := by kernel_rfl
theorem lentTexts_ok (b : Bool) (l : List ByteArray) (hl : l.length * 16 ≤ 140737488351232) : PureCall Tryd.prog GL 101 [.sl 1 b (l.map strAV)] (.slb 1 l.length ((l ++ mks mkText 12).map strAV)) := by
  refine pure_of_body Tryd.func101 body101 (Nat.le_of_ble_eq_true rfl) (by simp) (.slb (pu_str _)) ?_
  refine w_keep [(0, .sl 1 b (l.map strAV))] ⟨rfl, trivial⟩ ?_
  unfold c101
  refine awp_seq ?_
  refine w_reg (l := r101_0.toList) rfl r101_0_ok ?_
  refine a_op rfl (o_as rfl) ?_
  refine a_nil ?_
  refine tq_n ?_
  refine awp_seq ?_
  refine w_reg (l := r101_1.toList) rfl r101_1_ok ?_
  refine a_op rfl (o_mv rfl) ?_
  refine a_op rfl (o_len rfl rfl (by first | exact List.length_map .. | rfl) tl111) ?_
  refine a_op rfl (o_add rfl rfl (by simp only [klo, khi]; omega)) ?_
  refine a_op rfl (o_ms tE111 rfl rfl (by decide) (by omega) (by omega) (by omega) rfl rfl) ?_
  refine a_op rfl (o_as rfl) ?_
  refine a_nil ?_
  refine tq_n ?_
  refine awp_seq ?_
  refine w_reg (l := r101_2.toList) rfl r101_2_ok ?_
  refine a_op rfl (o_mv rfl) ?_
  refine a_op rfl (o_mv rfl) ?_
  refine a_op rfl (o_ap tE111 rfl rfl rfl rfl rfl (good_str _ _) (by simp; omega) (by simp; omega) rfl rfl rfl rfl) ?_
  refine a_op rfl (o_as rfl) ?_
  refine a_nil ?_
  refine tq_n ?_
  refine awp_seq ?_
  refine awp_seq ?_
  refine w_reg (l := r101_3.toList) rfl r101_3_ok ?_
  refine a_op rfl (o_as rfl) ?_
  refine a_nil ?_
  refine tq_n ?_
  refine awp_block ?_
  refine w_loop (fun i : Nat => i ≤ 12) (fun i => [(0, .sl 1 b (l.map strAV)), (3, .slo 0 (1 + i) 0 (l.length + i)), (4, .raw (.int .i64 (i : Int)))]) (fun i => [.vec 1 (1 + i) ((l ++ mks mkText i).map strAV)]) (fun i => 12 - i) (0) (by omega) ⟨(by first | exact sub_int rfl (by omega) | rfl | exact sub_eq rfl (by simp)), (by first | exact sub_int rfl (by omega) | rfl | exact sub_eq rfl (by simp)), (by first | exact sub_int rfl (by omega) | rfl | exact sub_eq rfl (by simp)), trivial⟩ (by simp [mks]) ?_
  intro i hp1
  unfold b101_0
  refine awp_seq ?_
  refine awp_seq ?_
  refine w_reg (l := r101_4.toList) rfl r101_4_ok ?_
  refine a_op rfl (o_mv rfl) ?_
  refine a_if rfl (o_lt rfl rfl) (fun h1 => ?_) (fun h2 => ?_)
  · refine a_nil ?_
    refine tq_n ?_
    refine w_true rfl ?_
    refine awp_skip ?_
    refine tq_n ?_
    refine awp_seq ?_
    refine awp_block ?_
    refine w_reg (l := r101_6.toList) rfl r101_6_ok ?_
    refine a_op rfl (o_mv rfl) ?_
    refine a_op rfl (o_mv rfl) ?_
    refine a_pure rfl rfl rfl cb116 (mkText_ok _ (by omega) (by omega)) ?_
    refine a_op rfl (o_bs tE111 (by decide) rfl rfl rfl) ?_
    refine a_op rfl (o_ap tE111 rfl rfl (by simp [mks]) rfl rfl rfl (by simp [mks]; omega) (by simp [mks]; omega) rfl rfl rfl rfl) ?_
    refine a_op rfl (o_as rfl) ?_
    refine a_nil ?_
    refine bq_n ?_
    refine tq_n ?_
    refine w_reg (l := r101_5.toList) rfl r101_5_ok ?_
    refine a_op rfl (o_mv rfl) ?_
    refine a_op rfl (o_add rfl rfl (by simp only [klo, khi]; omega)) ?_
    refine a_op rfl (o_as rfl) ?_
    refine a_nil ?_
    refine tq_n ?_
    exact ⟨i + 1, ⟨by omega, by omega⟩, ⟨(by first | exact sub_int rfl (by omega) | rfl | exact sub_eq rfl (by simp)), (by first | exact sub_int rfl (by omega) | rfl | exact sub_eq rfl (by simp)), (by first | exact sub_int rfl (by omega) | rfl | exact sub_eq rfl (by simp)), trivial⟩, by rw [mks_succ, ← List.append_assoc, List.map_append (l₂ := [_])]; rfl⟩
  refine a_nil ?_
  refine tq_n ?_
  refine w_false rfl ?_
  refine awp_exit ?_
  refine tq_x ?_
  refine tq_x ?_
  refine bq_hit ?_
  refine tq_n ?_
  refine awp_seq ?_
  refine w_reg (l := r101_7.toList) rfl r101_7_ok ?_
  refine a_op rfl (o_mv rfl) ?_
  refine a_op rfl (o_mv rfl) ?_
  refine a_op rfl (o_len rfl rfl (by first | exact List.length_map .. | rfl) tl111) ?_
  refine a_op rfl (o_slh te111 tn9 rfl rfl rfl rfl (by simp)) ?_
  refine a_op rfl (o_as rfl) ?_
  refine a_nil ?_
  refine tq_n ?_
  refine awp_ret ?_
  refine r_one rfl ⟨rfl, trivial⟩ ?_
  have hi : i = 12 := by omega
  subst hi
  exact rs_slob id rfl (by simp) (pu_str _) rfl
noncomputable def r105_0 : Array Oper := opsAt Tryd.f105 [0]
theorem r105_0_ok : dstOk 58 r105_0.toList = true ∧ r105_0.toList.all (fun o => noDefer o.op) = true := by decide +kernel
noncomputable def r105_1 : Array Oper := opsAt Tryd.f105 [1, 0, 0]
theorem r105_1_ok : dstOk 58 r105_1.toList = true ∧ r105_1.toList.all (fun o => noDefer o.op) = true := by decide +kernel
noncomputable def r105_2 : Array Oper := opsAt Tryd.f105 [1, 0, 1, 0, 0]
theorem r105_2_ok : dstOk 58 r105_2.toList = true ∧ r105_2.toList.all (fun o => noDefer o.op) = true := by decide +kernel
noncomputable def r105_3 : Array Oper := opsAt Tryd.f105 [1, 1, 0]
theorem r105_3_ok : dstOk 58 r105_3.toList = true ∧ r105_3.toList.all (fun o => noDefer o.op) = true := by decide +kernel
noncomputable def r105_4 : Array Oper := opsAt Tryd.f105 [1, 1, 1, 0, 0]
theorem r105_4_ok : dstOk 58 r105_4.toList = true ∧ r105_4.toList.all (fun o => noDefer o.op) = true := by decide +kernel
noncomputable def r105_5 : Array Oper := opsAt Tryd.f105 [1, 1, 1, 0, 1, 0, 0, 0, 0]
theorem r105_5_ok : dstOk 58 r105_5.toList = true ∧ r105_5.toList.all (fun o => noDefer o.op) = true := by decide +kernel
noncomputable def r105_7 : Array Oper := opsAt Tryd.f105 [1, 1, 1, 0, 1, 0, 0, 1, 0, 0, 0]
theorem r105_7_ok : dstOk 58 r105_7.toList = true ∧ r105_7.toList.all (fun o => noDefer o.op) = true := by decide +kernel
noncomputable def r105_8 : Array Oper := opsAt Tryd.f105 [1, 1, 1, 0, 1, 0, 0, 1, 0, 0, 1, 0, 0]
theorem r105_8_ok : dstOk 58 r105_8.toList = true ∧ r105_8.toList.all (fun o => noDefer o.op) = true := by decide +kernel
noncomputable def r105_6 : Array Oper := opsAt Tryd.f105 [1, 1, 1, 0, 1, 0, 0, 1, 1]
theorem r105_6_ok : dstOk 58 r105_6.toList = true ∧ r105_6.toList.all (fun o => noDefer o.op) = true := by decide +kernel
noncomputable def b105_0 : Code := (.seq (.seq (.region 5 r105_5 false) (.cond (.tmp 20) .skip (.exit 0))) (.seq (.block 1 (.seq (.region 7 r105_7 true) (.cond (.tmp 57) (.seq (.region 8 r105_8 false) .ret) .skip))) (.region 6 r105_6 false)))
noncomputable def r105_9 : Array Oper := opsAt Tryd.f105 [1, 1, 1, 1, 0]
theorem r105_9_ok : dstOk 58 r105_9.toList = true ∧ r105_9.toList.all (fun o => noDefer o.op) = true := by decide +kernel
noncomputable def c105 : Code := (.seq (.region 0 r105_0 false) (.seq (.seq (.region 1 r105_1 false) (.cond (.tmp 11) (.seq (.region 2 r105_2 false) .ret) .skip)) (.seq (.region 3 r105_3 false) (.seq (.seq (.region 4 r105_4 false) (.block 0 (.loop b105_0))) (.seq (.region 9 r105_9 false) .ret)))))
theorem body105 : Tryd.f105.body = some c105 := by kernel_rfl
theorem keptTexts_ok (b : Bool) (l : List ByteArray) (hl : l.length * 16 ≤ 140737488351232) : PureCall Tryd.prog GL 105 [.slb 1 l.length ((l ++ mks mkText 12).map strAV), .sl 1 b (l.map strAV)] (.raw (.bool true)) := by
  refine pure_of_body Tryd.func105 body105 (Nat.le_of_ble_eq_true rfl) (pur2 (.slb (pu_str _)) (.sl (pu_str _))) (by simp) ?_
  refine w_keep [(0, .slb 1 l.length ((l ++ mks mkText 12).map strAV)), (1, .sl 1 b (l.map strAV))] ⟨rfl, rfl, trivial⟩ ?_
  unfold c105
  have hlen : (l ++ mks mkText 12).length = l.length + 12 := by simp [mks]
  refine awp_seq ?_
  refine w_reg (l := r105_0.toList) rfl r105_0_ok ?_
  refine a_op rfl (o_as rfl) ?_
  refine a_nil ?_
  refine tq_n ?_
  refine awp_seq ?_
  refine awp_seq ?_
  refine w_reg (l := r105_1.toList) rfl r105_1_ok ?_
  refine a_op rfl (o_mv rfl) ?_
  refine a_op rfl (o_len rfl rfl (by first | exact List.length_map .. | rfl) tl111) ?_
  refine a_op rfl (o_mv rfl) ?_
  refine a_op rfl (o_len rfl rfl (by first | exact List.length_map .. | rfl) tl111) ?_
  refine a_if rfl (o_ne rfl rfl) (fun h1 => ?_) (fun h2 => ?_)
  · omega
  refine a_nil ?_
  refine tq_n ?_
  refine w_false rfl ?_
  refine awp_skip ?_
  refine tq_n ?_
  refine awp_seq ?_
  refine w_reg (l := r105_3.toList) rfl r105_3_ok ?_
  refine a_op rfl (o_mv rfl) ?_
  refine a_op rfl (o_mv rfl) ?_
  refine a_op rfl (o_len rfl rfl (by first | exact List.length_map .. | rfl) tl111) ?_
  refine a_op rfl (o_add rfl rfl (by simp only [klo, khi]; omega)) ?_
  refine a_op rfl (o_slb (m := l.length + 12) te111 tn9 rfl rfl (by omega) (by simp [mks])) ?_
  refine a_op rfl (o_as rfl) ?_
  refine a_nil ?_
  refine tq_n ?_
  refine awp_seq ?_
  refine awp_seq ?_
  refine w_reg (l := r105_4.toList) rfl r105_4_ok ?_
  refine a_op rfl (o_as rfl) ?_
  refine a_nil ?_
  refine tq_n ?_
  refine awp_block ?_
  refine w_loop (fun i : Nat => i ≤ l.length + 12) (fun i => [(0, .slb 1 l.length ((l ++ mks mkText 12).map strAV)), (1, .sl 1 b (l.map strAV)), (5, .sl 1 false ((l ++ mks mkText 12).map strAV)), (6, .raw (.int .i64 (i : Int)))]) (fun _ => []) (fun i => l.length + 12 - i) (0) (by omega) ⟨(by first | exact sub_int rfl (by omega) | rfl | exact sub_eq rfl (by rw [List.take_of_length_le (by simp [mks])])), (by first | exact sub_int rfl (by omega) | rfl | exact sub_eq rfl (by rw [List.take_of_length_le (by simp [mks])])), (by first | exact sub_int rfl (by omega) | rfl | exact sub_eq rfl (by rw [List.take_of_length_le (by simp [mks])])), (by first | exact sub_int rfl (by omega) | rfl | exact sub_eq rfl (by rw [List.take_of_length_le (by simp [mks])])), trivial⟩ rfl ?_
  intro i hp1
  unfold b105_0
  refine awp_seq ?_
  refine awp_seq ?_
  refine w_reg (l := r105_5.toList) rfl r105_5_ok ?_
  refine a_op rfl (o_mv rfl) ?_
  refine a_op rfl (o_mv rfl) ?_
  refine a_op rfl (o_len rfl rfl (by first | exact List.length_map .. | rfl) tl111) ?_
  refine a_if rfl (o_lt rfl rfl) (fun h3 => ?_) (fun h4 => ?_)
  · refine a_nil ?_
    refine tq_n ?_
    refine w_true rfl ?_
    refine awp_skip ?_
    refine tq_n ?_
    refine awp_seq ?_
    refine awp_block ?_
    refine awp_seq ?_
    refine awp_draw ⟨[[], [], [1], [0, 1, 2], [0, 1, 2, 3], [0, 1, 2, 3, 4], [0, 1, 2, 3, 4], [0, 1, 2, 3, 4, 5, 6], [0, 1, 2, 3, 4, 5, 6, 7], [0, 1, 2, 3, 4], [0, 1, 2, 3, 4], [0, 1, 2, 3, 4, 9, 10], [0, 1, 2, 3, 4, 9, 10, 11], [0, 1, 2, 3, 4, 5, 6, 7, 8, 9, 10, 11, 12], [0, 1, 2, 3, 4, 5, 6, 7, 8, 9, 10, 11, 12, 13], [0, 1, 2, 3, 4, 5, 6, 7, 8, 9, 10, 11, 12, 13, 14], [0, 1, 2, 3, 4, 5, 6, 7, 8, 9, 10, 11, 12, 13, 14, 15], [0, 1, 2, 3, 4, 5, 6, 7, 8, 9, 10, 11, 12, 13, 14, 15, 16], [0, 1, 2, 3, 4, 5, 6, 7, 8, 9, 10, 11, 12, 13, 14, 15, 16], [0, 1, 2, 3, 4, 5, 6, 7, 8, 9, 10, 11, 12, 13, 14, 15, 16, 18], [0, 1, 2, 3, 4, 5, 6, 7, 8, 9, 10, 11, 12, 13, 14, 15, 16, 17, 18, 19], [0, 1, 2, 3, 4, 5, 6, 7, 8, 9, 10, 11, 12, 13, 14, 15, 16, 17, 18, 19, 20], [0, 1, 2, 3, 4, 5, 6, 7, 8, 9, 10, 11, 12, 13, 14, 15, 16, 17, 18, 19, 20, 21], [0, 1, 2, 3, 4, 5, 6, 7, 8, 9, 10, 11, 12, 13, 14, 15, 16, 17, 18, 19, 20, 21], [0, 1, 2, 3, 4, 5, 6, 7, 8, 9, 10, 11, 12, 13, 14, 15, 16, 17, 18, 19, 20, 21, 22, 23], [0, 1, 2, 3, 4, 5, 6, 7, 8, 9, 10, 11, 12, 13, 14, 15, 16, 17, 18, 19, 20, 21, 22, 23, 24], [0, 1, 2, 3, 4, 5, 6, 7, 8, 9, 10, 11, 12, 13, 14, 15, 16, 17, 18, 19, 20, 21], [0, 1, 2, 3, 4, 5, 6, 7, 8, 9, 10, 11, 12, 13, 14, 15, 16, 17, 18, 19, 20, 21], [0, 1, 2, 3, 4, 5, 6, 7, 8, 9, 10, 11, 12, 13, 14, 15, 16, 17, 18, 19, 20, 21, 27], [0, 1, 2, 3, 4, 5, 6, 7, 8, 9, 10, 11, 12, 13, 14, 15, 16, 17, 18, 19, 20, 21, 26, 27, 28], [0, 1, 2, 3, 4, 5, 6, 7, 8, 9, 10, 11, 12, 13, 14, 15, 16, 17, 18, 19, 20, 21, 26, 27, 28, 29], [0, 1, 2, 3, 4, 5, 6, 7, 8, 9, 10, 11, 12, 13, 14, 15, 16, 17, 18, 19, 20, 21, 22, 23, 24, 25, 26, 27, 28, 29, 30], [0, 1, 2, 3, 4, 5, 6, 7, 8, 9, 10, 11, 12, 13, 14, 15, 16, 17, 18, 19, 20, 21, 22, 23, 24, 25, 26, 27, 28, 29, 30, 31], [0, 1, 2, 3, 4, 5, 6, 7, 8, 9, 10, 11, 12, 13, 14, 15, 16, 17, 18, 19, 20, 21, 22, 23, 24, 25, 26, 27, 28, 29, 30, 31, 32], [0, 1, 2, 3, 4, 5, 6, 7, 8, 9, 10, 11, 12, 13, 14, 15, 16, 17, 18, 19, 20, 21, 22, 23, 24, 25, 26, 27, 28, 29, 30, 31, 32, 33]], [[6], [1], [24], [23, 25], [26], [5, 27], [6, 27], [27, 28, 29], [27, 30], [1, 27], [6, 27], [27, 32, 33], [27, 34], [27, 31, 35], [27, 36], [27, 37], [38], [6, 39], [1, 39], [39, 41], [39, 40, 42], [39, 43], [5, 44], [6, 44], [44, 45, 46], [44, 47], [6, 44], [1, 44], [44, 50], [44, 49, 51], [44, 52], [44, 48, 53], [44, 54], [39, 44, 55], [39, 56]], [[], [], [], [], [], [], [], [], [], [], [], [], [], [], [], [], [], [], [], [], [], [], [], [], [], [], [], [], [], [], [], [], [], [], []], [none, none, none, none, none, none, none, none, none, none, none, none, none, none, none, none, none, none, none, none, none, none, none, none, none, none, none, none, none, none, none, none, none, none, none]⟩ mo r105_7_ok (by decide +kernel) (l := r105_7.toList) rfl ?_
    refine d_op rfl rfl rfl (fun _ => o_mv rfl) ?_
    refine d_op rfl rfl rfl (fun _ => o_mv rfl) ?_
    refine d_op rfl rfl rfl (fun _ => o_len rfl rfl (by first | exact List.length_map .. | rfl) tl111) ?_
    refine d_if rfl rfl rfl (fun _ => o_lt rfl rfl) (fun h5 => ?_) (fun h6 => ?_)
    · have hI : i < l.length := by omega
      have hA := at_lo strAV (m := mks mkText 12) hI
      refine d_op rfl rfl rfl (fun _ => o_mv rfl) ?_
      refine d_op rfl rfl rfl (fun _ => o_mv rfl) ?_
      refine d_op rfl rfl rfl (fun _ => o_mv rfl) ?_
      refine d_op rfl rfl rfl (fun _ => o_ix te111 tn9 rfl rfl rfl hA) ?_
      refine d_op rfl rfl rfl (fun _ => (by first | exact o_ld tg9 rfl rfl | exact o_ldp tg9 rfl rfl rfl rfl)) ?_
      refine d_op rfl rfl rfl (fun _ => o_mv rfl) ?_
      refine d_op rfl rfl rfl (fun _ => o_mv rfl) ?_
      refine d_op rfl rfl rfl (fun _ => o_ix te111 tn9 rfl rfl rfl (ixm _ _ _ hI)) ?_
      refine d_op rfl rfl rfl (fun _ => (by first | exact o_ld tg9 rfl rfl | exact o_ldp tg9 rfl rfl rfl rfl)) ?_
      refine d_ifb rfl rfl rfl (fun _ => o_bin rfl rfl rfl) (fun h7 => ?_) (fun h8 => ?_)
      · refine d_op rfl rfl rfl (fun _ => o_ntt rfl) ?_
        refine d_op rfl rfl rfl (fun _ => o_pkt rfl rfl) ?_
        refine d_op rfl rfl rfl (fun _ => o_mv rfl) ?_
        refine d_op rfl rfl rfl (fun _ => o_mv rfl) ?_
        refine d_op rfl rfl rfl (fun _ => o_mv rfl) ?_
        refine d_op rfl rfl rfl (fun _ => o_len rfl rfl (by first | exact List.length_map .. | rfl) tl111) ?_
        refine d_if rfl rfl rfl (fun _ => o_ge rfl rfl) (fun h9 => ?_) (fun h10 => ?_)
        · omega
        refine d_op rfl rfl rfl (fun _ => o_mv rfl) ?_
        refine d_off rfl rfl ?_
        refine d_off rfl rfl ?_
        refine d_off rfl rfl ?_
        refine d_off rfl rfl ?_
        refine d_off rfl rfl ?_
        refine d_off rfl rfl ?_
        refine d_off rfl rfl ?_
        refine d_off rfl rfl ?_
        refine d_off rfl rfl ?_
        refine d_off rfl rfl ?_
        refine d_off rfl rfl ?_
        refine d_op rfl rfl rfl (fun _ => o_pkf rfl rfl) ?_
        refine d_op rfl rfl rfl (fun _ => o_pkf rfl rfl) ?_
        refine d_nil ?_
        refine tq_n ?_
        refine w_false rfl ?_
        refine awp_skip ?_
        refine bq_n ?_
        refine tq_n ?_
        refine w_reg (l := r105_6.toList) rfl r105_6_ok ?_
        refine a_op rfl (o_mv rfl) ?_
        refine a_op rfl (o_add rfl rfl (by simp only [klo, khi]; omega)) ?_
        refine a_op rfl (o_as rfl) ?_
        refine a_nil ?_
        refine tq_n ?_
        exact ⟨i + 1, ⟨by omega, by omega⟩, ⟨(by first | exact sub_int rfl (by omega) | rfl | exact sub_eq rfl (by rw [List.take_of_length_le (by simp [mks])])), (by first | exact sub_int rfl (by omega) | rfl | exact sub_eq rfl (by rw [List.take_of_length_le (by simp [mks])])), (by first | exact sub_int rfl (by omega) | rfl | exact sub_eq rfl (by rw [List.take_of_length_le (by simp [mks])])), (by first | exact sub_int rfl (by omega) | rfl | exact sub_eq rfl (by rw [List.take_of_length_le (by simp [mks])])), trivial⟩, rfl⟩
      simp at h8
    refine d_op rfl rfl rfl (fun _ => o_mv rfl) ?_
    refine d_off rfl rfl ?_
    refine d_off rfl rfl ?_
    refine d_off rfl rfl ?_
    refine d_off rfl rfl ?_
    refine d_off rfl rfl ?_
    refine d_off rfl rfl ?_
    refine d_off rfl rfl ?_
    refine d_off rfl rfl ?_
    refine d_off rfl rfl ?_
    refine d_off rfl rfl ?_
    refine d_op rfl rfl rfl (fun _ => o_pkf rfl rfl) ?_
    refine d_op rfl rfl rfl (fun _ => o_mv rfl) ?_
    refine d_op rfl rfl rfl (fun _ => o_mv rfl) ?_
    refine d_op rfl rfl rfl (fun _ => o_mv rfl) ?_
    refine d_op rfl rfl rfl (fun _ => o_len rfl rfl (by first | exact List.length_map .. | rfl) tl111) ?_
    refine d_if rfl rfl rfl (fun _ => o_ge rfl rfl) (fun h11 => ?_) (fun h12 => ?_)
    · have hB := at_hi strAV mkText (l := l) (i := i) (n := 12) (by omega) (by omega)
      have hk0 : 0 ≤ (i : Int) - (l.length : Int) := by omega
      have hk1 : (i : Int) - (l.length : Int) < 12 := by omega
      refine d_op rfl rfl rfl (fun _ => o_mv rfl) ?_
      refine d_op rfl rfl rfl (fun _ => o_mv rfl) ?_
      refine d_op rfl rfl rfl (fun _ => o_mv rfl) ?_
      refine d_op rfl rfl rfl (fun _ => o_ix te111 tn9 rfl rfl rfl hB) ?_
      refine d_op rfl rfl rfl (fun _ => (by first | exact o_ld tg9 rfl rfl | exact o_ldp tg9 rfl rfl rfl rfl)) ?_
      refine d_op rfl rfl rfl (fun _ => o_mv rfl) ?_
      refine d_op rfl rfl rfl (fun _ => o_mv rfl) ?_
      refine d_op rfl rfl rfl (fun _ => o_len rfl rfl (by first | exact List.length_map .. | rfl) tl111) ?_
      refine d_op rfl rfl rfl (fun _ => o_sub rfl rfl (by simp only [klo, khi]; omega)) ?_
      refine d_pure rfl rfl rfl rfl cb116 (mkText_ok _ hk0 hk1) ?_
      refine d_ifb rfl rfl rfl (fun _ => o_bin rfl rfl rfl) (fun h13 => ?_) (fun h14 => ?_)
      · refine d_op rfl rfl rfl (fun _ => o_ntt rfl) ?_
        refine d_op rfl rfl rfl (fun _ => o_pkt rfl rfl) ?_
        refine d_op rfl rfl rfl (fun _ => o_pkf rfl rfl) ?_
        refine d_nil ?_
        refine tq_n ?_
        refine w_false rfl ?_
        refine awp_skip ?_
        refine bq_n ?_
        refine tq_n ?_
        refine w_reg (l := r105_6.toList) rfl r105_6_ok ?_
        refine a_op rfl (o_mv rfl) ?_
        refine a_op rfl (o_add rfl rfl (by simp only [klo, khi]; omega)) ?_
        refine a_op rfl (o_as rfl) ?_
        refine a_nil ?_
        refine tq_n ?_
        exact ⟨i + 1, ⟨by omega, by omega⟩, ⟨(by first | exact sub_int rfl (by omega) | rfl | exact sub_eq rfl (by rw [List.take_of_length_le (by simp [mks])])), (by first | exact sub_int rfl (by omega) | rfl | exact sub_eq rfl (by rw [List.take_of_length_le (by simp [mks])])), (by first | exact sub_int rfl (by omega) | rfl | exact sub_eq rfl (by rw [List.take_of_length_le (by simp [mks])])), (by first | exact sub_int rfl (by omega) | rfl | exact sub_eq rfl (by rw [List.take_of_length_le (by simp [mks])])), trivial⟩, rfl⟩
      simp at h14
    omega
  refine a_nil ?_
  refine tq_n ?_
  refine w_false rfl ?_
  refine awp_exit ?_
  refine tq_x ?_
  refine tq_x ?_
  refine bq_hit ?_
  refine tq_n ?_
  refine awp_seq ?_
  refine w_reg (l := r105_9.toList) rfl r105_9_ok ?_
  refine a_op rfl (o_as rfl) ?_
  refine a_nil ?_
  refine tq_n ?_
  refine awp_ret ?_
  refine r_one rfl ⟨rfl, trivial⟩ ?_
  exact rs_pur (by simp) rfl
noncomputable def r106_0 : Array Oper := opsAt Tryd.f106 [0]
theorem r106_0_ok : dstOk 26 r106_0.toList = true ∧ r106_0.toList.all (fun o => noDefer o.op) = true := by decide +kernel
noncomputable def r106_1 : Array Oper := opsAt Tryd.f106 [1, 0, 0]
theorem r106_1_ok : dstOk 26 r106_1.toList = true ∧ r106_1.toList.all (fun o => noDefer o.op) = true := by decide +kernel
noncomputable def r106_2 : Array Oper := opsAt Tryd.f106 [1, 0, 1, 0, 0]
theorem r106_2_ok : dstOk 26 r106_2.toList = true ∧ r106_2.toList.all (fun o => noDefer o.op) = true := by decide +kernel
noncomputable def r106_3 : Array Oper := opsAt Tryd.f106 [1, 1, 0, 0]
theorem r106_3_ok : dstOk 26 r106_3.toList = true ∧ r106_3.toList.all (fun o => noDefer o.op) = true := by decide +kernel
noncomputable def r106_4 : Array Oper := opsAt Tryd.f106 [1, 1, 0, 1, 0, 0, 0, 0]
theorem r106_4_ok : dstOk 26 r106_4.toList = true ∧ r106_4.toList.all (fun o => noDefer o.op) = true := by decide +kernel
noncomputable def r106_6 : Array Oper := opsAt Tryd.f106 [1, 1, 0, 1, 0, 0, 1, 0, 0, 0]
theorem r106_6_ok : dstOk 26 r106_6.toList = true ∧ r106_6.toList.all (fun o => noDefer o.op) = true := by decide +kernel
noncomputable def r106_7 : Array Oper := opsAt Tryd.f106 [1, 1, 0, 1, 0, 0, 1, 0, 0, 1, 0, 0]
theorem r106_7_ok : dstOk 26 r106_7.toList = true ∧ r106_7.toList.all (fun o => noDefer o.op) = true := by decide +kernel
noncomputable def r106_5 : Array Oper := opsAt Tryd.f106 [1, 1, 0, 1, 0, 0, 1, 1]
theorem r106_5_ok : dstOk 26 r106_5.toList = true ∧ r106_5.toList.all (fun o => noDefer o.op) = true := by decide +kernel
noncomputable def b106_0 : Code := (.seq (.seq (.region 4 r106_4 false) (.cond (.tmp 14) .skip (.exit 0))) (.seq (.block 1 (.seq (.region 6 r106_6 true) (.cond (.tmp 25) (.seq (.region 7 r106_7 false) .ret) .skip))) (.region 5 r106_5 false)))
noncomputable def r106_8 : Array Oper := opsAt Tryd.f106 [1, 1, 1, 0]
theorem r106_8_ok : dstOk 26 r106_8.toList = true ∧ r106_8.toList.all (fun o => noDefer o.op) = true := by decide +kernel
noncomputable def c106 : Code := (.seq (.region 0 r106_0 false) (.seq (.seq (.region 1 r106_1 false) (.cond (.tmp 10) (.seq (.region 2 r106_2 false) .ret) .skip)) (.seq (.seq (.region 3 r106_3 false) (.block 0 (.loop b106_0))) (.seq (.region 8 r106_8 false) .ret))))
theorem body106 : Tryd.f106.body = some c106 := by kernel_rfl
theorem sameTexts_ok (b : Bool) (l : List ByteArray) (hl : l.length * 16 ≤ 140737488351232) : PureCall Tryd.prog GL 106 [.slb 1 l.length ((l ++ mks mkText 12).map strAV), .sl 1 b (l.map strAV)] (.raw (.bool true)) := by
  refine pure_of_body Tryd.func106 body106 (Nat.le_of_ble_eq_true rfl) (pur2 (.slb (pu_str _)) (.sl (pu_str _))) (by simp) ?_
  refine w_keep [(0, .slb 1 l.length ((l ++ mks mkText 12).map strAV)), (1, .sl 1 b (l.map strAV))] ⟨rfl, rfl, trivial⟩ ?_
  unfold c106
  refine awp_seq ?_
  refine w_reg (l := r106_0.toList) rfl r106_0_ok ?_
  refine a_op rfl (o_as rfl) ?_
  refine a_nil ?_
  refine tq_n ?_
  refine awp_seq ?_
  refine awp_seq ?_
  refine w_reg (l := r106_1.toList) rfl r106_1_ok ?_
  refine a_op rfl (o_mv rfl) ?_
  refine a_op rfl (o_len rfl rfl (by first | exact List.length_map .. | rfl) tl111) ?_
  refine a_op rfl (o_mv rfl) ?_
  refine a_op rfl (o_len rfl rfl (by first | exact List.length_map .. | rfl) tl111) ?_
  refine a_if rfl (o_ne rfl rfl) (fun h1 => ?_) (fun h2 => ?_)
  · omega
  refine a_nil ?_
  refine tq_n ?_
  refine w_false rfl ?_
  refine awp_skip ?_
  refine tq_n ?_
  refine awp_seq ?_
  refine awp_seq ?_
  refine w_reg (l := r106_3.toList) rfl r106_3_ok ?_
  refine a_op rfl (o_as rfl) ?_
  refine a_nil ?_
  refine tq_n ?_
  refine awp_block ?_
  refine w_loop (fun i : Nat => i ≤ l.length) (fun i => [(0, .slb 1 l.length ((l ++ mks mkText 12).map strAV)), (1, .sl 1 b (l.map strAV)), (5, .raw (.int .i64 (i : Int)))]) (fun _ => []) (fun i => l.length - i) (0) (by omega) ⟨(by first | exact sub_int rfl (by omega) | rfl), (by first | exact sub_int rfl (by omega) | rfl), (by first | exact sub_int rfl (by omega) | rfl), trivial⟩ rfl ?_
  intro i hp1
  unfold b106_0
  refine awp_seq ?_
  refine awp_seq ?_
  refine w_reg (l := r106_4.toList) rfl r106_4_ok ?_
  refine a_op rfl (o_mv rfl) ?_
  refine a_op rfl (o_mv rfl) ?_
  refine a_op rfl (o_len rfl rfl (by first | exact List.length_map .. | rfl) tl111) ?_
  refine a_if rfl (o_lt rfl rfl) (fun h3 => ?_) (fun h4 => ?_)
  · refine a_nil ?_
    refine tq_n ?_
    refine w_true rfl ?_
    refine awp_skip ?_
    refine tq_n ?_
    refine awp_seq ?_
    refine awp_block ?_
    refine awp_seq ?_
    have hI : i < l.length := by omega
    have hA := at_lo strAV (m := mks mkText 12) hI
    refine awp_draw ⟨[[], [], [0, 1], [0, 1, 2], [], [], [4, 5], [4, 5, 6], [0, 1, 2, 3, 4, 5, 6, 7]], [[0], [5], [17, 18], [19], [1], [5], [21, 22], [23], [20, 24]], [[], [], [], [], [], [], [], [], []], [none, none, none, none, none, none, none, none, none]⟩ mo r106_6_ok (by decide +kernel) (l := r106_6.toList) rfl ?_
    refine d_op rfl rfl rfl (fun _ => o_mv rfl) ?_
    refine d_op rfl rfl rfl (fun _ => o_mv rfl) ?_
    refine d_op rfl rfl rfl (fun _ => o_ixb te111 tn9 rfl rfl nofun rfl hA hI) ?_
    refine d_op rfl rfl rfl (fun _ => (by first | exact o_ld tg9 rfl rfl | exact o_ldp tg9 rfl rfl rfl rfl)) ?_
    refine d_op rfl rfl rfl (fun _ => o_mv rfl) ?_
    refine d_op rfl rfl rfl (fun _ => o_mv rfl) ?_
    refine d_op rfl rfl rfl (fun _ => o_ix te111 tn9 rfl rfl rfl (ixm _ _ _ hI)) ?_
    refine d_op rfl rfl rfl (fun _ => (by first | exact o_ld tg9 rfl rfl | exact o_ldp tg9 rfl rfl rfl rfl)) ?_
    refine d_ifb rfl rfl rfl (fun _ => o_bin rfl rfl rfl) (fun h5 => ?_) (fun h6 => ?_)
    · simp at h5
    refine d_nil ?_
    refine tq_n ?_
    refine w_false rfl ?_
    refine awp_skip ?_
    refine bq_n ?_
    refine tq_n ?_
    refine w_reg (l := r106_5.toList) rfl r106_5_ok ?_
    refine a_op rfl (o_mv rfl) ?_
    refine a_op rfl (o_add rfl rfl (by simp only [klo, khi]; omega)) ?_
    refine a_op rfl (o_as rfl) ?_
    refine a_nil ?_
    refine tq_n ?_
    exact ⟨i + 1, ⟨by omega, by omega⟩, ⟨(by first | exact sub_int rfl (by omega) | rfl), (by first | exact sub_int rfl (by omega) | rfl), (by first | exact sub_int rfl (by omega) | rfl), trivial⟩, rfl⟩
  refine a_nil ?_
  refine tq_n ?_
  refine w_false rfl ?_
  refine awp_exit ?_
  refine tq_x ?_
  refine tq_x ?_
  refine bq_hit ?_
  refine tq_n ?_
  refine awp_seq ?_
  refine w_reg (l := r106_8.toList) rfl r106_8_ok ?_
  refine a_op rfl (o_as rfl) ?_
  refine a_nil ?_
  refine tq_n ?_
  refine awp_ret ?_
  refine r_one rfl ⟨rfl, trivial⟩ ?_
  exact rs_pur (by simp) rfl
noncomputable def r24_0 : Array Oper := opsAt Tryd.f24 [0]
theorem r24_0_ok : dstOk 25 r24_0.toList = true ∧ r24_0.toList.all (fun o => noDefer o.op) = true := by decide +kernel
noncomputable def r24_1 : Array Oper := opsAt Tryd.f24 [1, 0]
theorem r24_1_ok : dstOk 25 r24_1.toList = true ∧ r24_1.toList.all (fun o => noDefer o.op) = true := by decide +kernel
noncomputable def r24_2 : Array Oper := opsAt Tryd.f24 [1, 1, 0]
theorem r24_2_ok : dstOk 25 r24_2.toList = true ∧ r24_2.toList.all (fun o => noDefer o.op) = true := by decide +kernel
noncomputable def r24_3 : Array Oper := opsAt Tryd.f24 [1, 1, 1, 0, 0]
theorem r24_3_ok : dstOk 25 r24_3.toList = true ∧ r24_3.toList.all (fun o => noDefer o.op) = true := by decide +kernel
noncomputable def r24_4 : Array Oper := opsAt Tryd.f24 [1, 1, 1, 0, 1, 0, 0, 0, 0]
theorem r24_4_ok : dstOk 25 r24_4.toList = true ∧ r24_4.toList.all (fun o => noDefer o.op) = true := by decide +kernel
noncomputable def r24_6 : Array Oper := opsAt Tryd.f24 [1, 1, 1, 0, 1, 0, 0, 1, 0, 0]
theorem r24_6_ok : dstOk 25 r24_6.toList = true ∧ r24_6.toList.all (fun o => noDefer o.op) = true := by decide +kernel
noncomputable def r24_5 : Array Oper := opsAt Tryd.f24 [1, 1, 1, 0, 1, 0, 0, 1, 1]
theorem r24_5_ok : dstOk 25 r24_5.toList = true ∧ r24_5.toList.all (fun o => noDefer o.op) = true := by decide +kernel
noncomputable def b24_0 : Code := (.seq (.seq (.region 4 r24_4 false) (.cond (.tmp 13) .skip (.exit 0))) (.seq (.block 1 (.region 6 r24_6 false)) (.region 5 r24_5 false)))
noncomputable def r24_7 : Array Oper := opsAt Tryd.f24 [1, 1, 1, 1, 0]
theorem r24_7_ok : dstOk 25 r24_7.toList = true ∧ r24_7.toList.all (fun o => noDefer o.op) = true := by decide +kernel
noncomputable def c24 : Code := (.seq (.region 0 r24_0 false) (.seq (.region 1 r24_1 false) (.seq (.region 2 r24_2 false) (.seq (.seq (.region 3 r24_3 false) (.block 0 (.loop b24_0))) (.seq (.region 7 r24_7 false) .ret)))))
theorem body24 : Tryd.f24.body = some c24 := by kernel_rfl
theorem lentRules_ok (b : Bool) (l : List RuleR) (hl : l.length * 40 ≤ 140737488351232) : PureCall Tryd.prog GL 24 [.sl 5 b (l.map ruleAV)] (.slb 5 l.length ((l ++ mks mkRule 12).map ruleAV)) := by
  refine pure_of_body Tryd.func24 body24 (Nat.le_of_ble_eq_true rfl) (by simp) (.slb (pu_rul _)) ?_
  refine w_keep [(0, .sl 5 b (l.map ruleAV))] ⟨rfl, trivial⟩ ?_
  unfold c24
  refine awp_seq ?_
  refine w_reg (l := r24_0.toList) rfl r24_0_ok ?_
  refine a_op rfl (o_as rfl) ?_
  refine a_nil ?_
  refine tq_n ?_
  refine awp_seq ?_
  refine w_reg (l := r24_1.toList) rfl r24_1_ok ?_
  refine a_op rfl (o_mv rfl) ?_
  refine a_op rfl (o_len rfl rfl (by first | exact List.length_map .. | rfl) tl32) ?_
  refine a_op rfl (o_add rfl rfl (by simp only [klo, khi]; omega)) ?_
  refine a_op rfl (o_ms tE32 rfl rfl (by decide) (by omega) (by omega) (by omega) rfl rfl) ?_
  refine a_op rfl (o_as rfl) ?_
  refine a_nil ?_
  refine tq_n ?_
  refine awp_seq ?_
  refine w_reg (l := r24_2.toList) rfl r24_2_ok ?_
  refine a_op rfl (o_mv rfl) ?_
  refine a_op rfl (o_mv rfl) ?_
  refine a_op rfl (o_ap tE32 rfl rfl rfl rfl rfl (good_rul _ _) (by simp; omega) (by simp; omega) rfl rfl rfl rfl) ?_
  refine a_op rfl (o_as rfl) ?_
  refine a_nil ?_
  refine tq_n ?_
  refine awp_seq ?_
  refine awp_seq ?_
  refine w_reg (l := r24_3.toList) rfl r24_3_ok ?_
  refine a_op rfl (o_as rfl) ?_
  refine a_nil ?_
  refine tq_n ?_
  refine awp_block ?_
  refine w_loop (fun i : Nat => i ≤ 12) (fun i => [(0, .sl 5 b (l.map ruleAV)), (3, .slo 0 (1 + i) 0 (l.length + i)), (4, .raw (.int .i64 (i : Int)))]) (fun i => [.vec 5 (1 + i) ((l ++ mks mkRule i).map ruleAV)]) (fun i => 12 - i) (0) (by omega) ⟨(by first | exact sub_int rfl (by omega) | rfl | exact sub_eq rfl (by simp)), (by first | exact sub_int rfl (by omega) | rfl | exact sub_eq rfl (by simp)), (by first | exact sub_int rfl (by omega) | rfl | exact sub_eq rfl (by simp)), trivial⟩ (by simp [mks]) ?_
  intro i hp1
  unfold b24_0
  refine awp_seq ?_
  refine awp_seq ?_
  refine w_reg (l := r24_4.toList) rfl r24_4_ok ?_
  refine a_op rfl (o_mv rfl) ?_
  refine a_if rfl (o_lt rfl rfl) (fun h1 => ?_) (fun h2 => ?_)
  · refine a_nil ?_
    refine tq_n ?_
    refine w_true rfl ?_
    refine awp_skip ?_
    refine tq_n ?_
    refine awp_seq ?_
    refine awp_block ?_
    refine w_reg (l := r24_6.toList) rfl r24_6_ok ?_
    refine a_op rfl (o_mv rfl) ?_
    refine a_op rfl (o_mv rfl) ?_
    refine a_pure rfl rfl rfl cb45 (mkRule_ok _ (by omega) (by omega)) ?_
    refine a_op rfl (o_bs tE32 (by decide) rfl rfl rfl) ?_
    refine a_op rfl (o_ap tE32 rfl rfl (by simp [mks]) rfl rfl rfl (by simp [mks]; omega) (by simp [mks]; omega) rfl rfl rfl rfl) ?_
    refine a_op rfl (o_as rfl) ?_
    refine a_nil ?_
    refine bq_n ?_
    refine tq_n ?_
    refine w_reg (l := r24_5.toList) rfl r24_5_ok ?_
    refine a_op rfl (o_mv rfl) ?_
    refine a_op rfl (o_add rfl rfl (by simp only [klo, khi]; omega)) ?_
    refine a_op rfl (o_as rfl) ?_
    refine a_nil ?_
    refine tq_n ?_
    exact ⟨i + 1, ⟨by omega, by omega⟩, ⟨(by first | exact sub_int rfl (by omega) | rfl | exact sub_eq rfl (by simp)), (by first | exact sub_int rfl (by omega) | rfl | exact sub_eq rfl (by simp)), (by first | exact sub_int rfl (by omega) | rfl | exact sub_eq rfl (by simp)), trivial⟩, by rw [mks_succ, ← List.append_assoc, List.map_append (l₂ := [_])]; rfl⟩
  refine a_nil ?_
  refine tq_n ?_
  refine w_false rfl ?_
  refine awp_exit ?_
  refine tq_x ?_
  refine tq_x ?_
  refine bq_hit ?_
  refine tq_n ?_
  refine awp_seq ?_
  refine w_reg (l := r24_7.toList) rfl r24_7_ok ?_
  refine a_op rfl (o_mv rfl) ?_
  refine a_op rfl (o_mv rfl) ?_
  refine a_op rfl (o_len rfl rfl (by first | exact List.length_map .. | rfl) tl32) ?_
  refine a_op rfl (o_slh te32 tn37 rfl rfl rfl rfl (by simp)) ?_
  refine a_op rfl (o_as rfl) ?_
  refine a_nil ?_
  refine tq_n ?_
  refine awp_ret ?_
  refine r_one rfl ⟨rfl, trivial⟩ ?_
  have hi : i = 12 := by omega
  subst hi
  exact rs_slob id rfl (by simp) (pu_rul _) rfl
noncomputable def r28_0 : Array Oper := opsAt Tryd.f28 [0]
theorem r28_0_ok : dstOk 58 r28_0.toList = true ∧ r28_0.toList.all (fun o => noDefer o.op) = true := by decide +kernel
noncomputable def r28_1 : Array Oper := opsAt Tryd.f28 [1, 0, 0]
theorem r28_1_ok : dstOk 58 r28_1.toList = true ∧ r28_1.toList.all (fun o => noDefer o.op) = true := by decide +kernel
noncomputable def r28_2 : Array Oper := opsAt Tryd.f28 [1, 0, 1, 0, 0]
theorem r28_2_ok : dstOk 58 r28_2.toList = true ∧ r28_2.toList.all (fun o => noDefer o.op) = true := by decide +kernel
noncomputable def r28_3 : Array Oper := opsAt Tryd.f28 [1, 1, 0]
theorem r28_3_ok : dstOk 58 r28_3.toList = true ∧ r28_3.toList.all (fun o => noDefer o.op) = true := by decide +kernel
noncomputable def r28_4 : Array Oper := opsAt Tryd.f28 [1, 1, 1, 0, 0]
theorem r28_4_ok : dstOk 58 r28_4.toList = true ∧ r28_4.toList.all (fun o => noDefer o.op) = true := by decide +kernel
noncomputable def r28_5 : Array Oper := opsAt Tryd.f28 [1, 1, 1, 0, 1, 0, 0, 0, 0]
theorem r28_5_ok : dstOk 58 r28_5.toList = true ∧ r28_5.toList.all (fun o => noDefer o.op) = true := by decide +kernel
noncomputable def r28_7 : Array Oper := opsAt Tryd.f28 [1, 1, 1, 0, 1, 0, 0, 1, 0, 0, 0]
theorem r28_7_ok : dstOk 58 r28_7.toList = true ∧ r28_7.toList.all (fun o => noDefer o.op) = true := by decide +kernel
noncomputable def r28_8 : Array Oper := opsAt Tryd.f28 [1, 1, 1, 0, 1, 0, 0, 1, 0, 0, 1, 0, 0]
theorem r28_8_ok : dstOk 58 r28_8.toList = true ∧ r28_8.toList.all (fun o => noDefer o.op) = true := by decide +kernel
noncomputable def r28_6 : Array Oper := opsAt Tryd.f28 [1, 1, 1, 0, 1, 0, 0, 1, 1]
theorem r28_6_ok : dstOk 58 r28_6.toList = true ∧ r28_6.toList.all (fun o => noDefer o.op) = true := by decide +kernel
noncomputable def b28_0 : Code := (.seq (.seq (.region 5 r28_5 false) (.cond (.tmp 20) .skip (.exit 0))) (.seq (.block 1 (.seq (.region 7 r28_7 true) (.cond (.tmp 57) (.seq (.region 8 r28_8 false) .ret) .skip))) (.region 6 r28_6 false)))
noncomputable def r28_9 : Array Oper := opsAt Tryd.f28 [1, 1, 1, 1, 0]
theorem r28_9_ok : dstOk 58 r28_9.toList = true ∧ r28_9.toList.all (fun o => noDefer o.op) = true := by decide +kernel
noncomputable def c28 : Code := (.seq (.region 0 r28_0 false) (.seq (.seq (.region 1 r28_1 false) (.cond (.tmp 11) (.seq (.region 2 r28_2 false) .ret) .skip)) (.seq (.region 3 r28_3 false) (.seq (.seq (.region 4 r28_4 false) (.block 0 (.loop b28_0))) (.seq (.region 9 r28_9 false) .ret)))))
theorem body28 : Tryd.f28.body = some c28 := by kernel_rfl
theorem keptRules_ok (b : Bool) (l : List RuleR) (hl : l.length * 40 ≤ 140737488351232) : PureCall Tryd.prog GL 28 [.slb 5 l.length ((l ++ mks mkRule 12).map ruleAV), .sl 5 b (l.map ruleAV)] (.raw (.bool true)) := by
  refine pure_of_body Tryd.func28 body28 (Nat.le_of_ble_eq_true rfl) (pur2 (.slb (pu_rul _)) (.sl (pu_rul _))) (by simp) ?_
  refine w_keep [(0, .slb 5 l.length ((l ++ mks mkRule 12).map ruleAV)), (1, .sl 5 b (l.map ruleAV))] ⟨rfl, rfl, trivial⟩ ?_
  unfold c28
  have hlen : (l ++ mks mkRule 12).length = l.length + 12 := by simp [mks]
  refine awp_seq ?_
  refine w_reg (l := r28_0.toList) rfl r28_0_ok ?_
  refine a_op rfl (o_as rfl) ?_
  refine a_nil ?_
  refine tq_n ?_
  refine awp_seq ?_
  refine awp_seq ?_
  refine w_reg (l := r28_1.toList) rfl r28_1_ok ?_
  refine a_op rfl (o_mv rfl) ?_
  refine a_op rfl (o_len rfl rfl (by first | exact List.length_map .. | rfl) tl32) ?_
  refine a_op rfl (o_mv rfl) ?_
  refine a_op rfl (o_len rfl rfl (by first | exact List.length_map .. | rfl) tl32) ?_
  refine a_if rfl (o_ne rfl rfl) (fun h1 => ?_) (fun h2 => ?_)
  · omega
  refine a_nil ?_
  refine tq_n ?_
  refine w_false rfl ?_
  refine awp_skip ?_
  refine tq_n ?_
  refine awp_seq ?_
  refine w_reg (l := r28_3.toList) rfl r28_3_ok ?_
  refine a_op rfl (o_mv rfl) ?_
  refine a_op rfl (o_mv rfl) ?_
  refine a_op rfl (o_len rfl rfl (by first | exact List.length_map .. | rfl) tl32) ?_
  refine a_op rfl (o_add rfl rfl (by simp only [klo, khi]; omega)) ?_
  refine a_op rfl (o_slb (m := l.length + 12) te32 tn37 rfl rfl (by omega) (by simp [mks])) ?_
  refine a_op rfl (o_as rfl) ?_
  refine a_nil ?_
  refine tq_n ?_
  refine awp_seq ?_
  refine awp_seq ?_
  refine w_reg (l := r28_4.toList) rfl r28_4_ok ?_
  refine a_op rfl (o_as rfl) ?_
  refine a_nil ?_
  refine tq_n ?_
  refine awp_block ?_
  refine w_loop (fun i : Nat => i ≤ l.length + 12) (fun i => [(0, .slb 5 l.length ((l ++ mks mkRule 12).map ruleAV)), (1, .sl 5 b (l.map ruleAV)), (5, .sl 5 false ((l ++ mks mkRule 12).map ruleAV)), (6, .raw (.int .i64 (i : Int)))]) (fun _ => []) (fun i => l.length + 12 - i) (0) (by omega) ⟨(by first | exact sub_int rfl (by omega) | rfl | exact sub_eq rfl (by rw [List.take_of_length_le (by simp [mks])])), (by first | exact sub_int rfl (by omega) | rfl | exact sub_eq rfl (by rw [List.take_of_length_le (by simp [mks])])), (by first | exact sub_int rfl (by omega) | rfl | exact sub_eq rfl (by rw [List.take_of_length_le (by simp [mks])])), (by first | exact sub_int rfl (by omega) | rfl | exact sub_eq rfl (by rw [List.take_of_length_le (by simp [mks])])), trivial⟩ rfl ?_
  intro i hp1
  unfold b28_0
  refine awp_seq ?_
  refine awp_seq ?_
  refine w_reg (l := r28_5.toList) rfl r28_5_ok ?_
  refine a_op rfl (o_mv rfl) ?_
  refine a_op rfl (o_mv rfl) ?_
  refine a_op rfl (o_len rfl rfl (by first | exact List.length_map .. | rfl) tl32) ?_
  refine a_if rfl (o_lt rfl rfl) (fun h3 => ?_) (fun h4 => ?_)
  · refine a_nil ?_
    refine tq_n ?_
    refine w_true rfl ?_
    refine awp_skip ?_
    refine tq_n ?_
    refine awp_seq ?_
    refine awp_block ?_
    refine awp_seq ?_
    refine awp_draw ⟨[[], [], [1], [0, 1, 2], [0, 1, 2, 3], [0, 1, 2, 3, 4], [0, 1, 2, 3, 4], [0, 1, 2, 3, 4, 5, 6], [0, 1, 2, 3, 4, 5, 6, 7], [0, 1, 2, 3, 4], [0, 1, 2, 3, 4], [0, 1, 2, 3, 4, 9, 10], [0, 1, 2, 3, 4, 9, 10, 11], [0, 1, 2, 3, 4, 5, 6, 7, 8, 9, 10, 11, 12], [0, 1, 2, 3, 4, 5, 6, 7, 8, 9, 10, 11, 12, 13], [0, 1, 2, 3, 4, 5, 6, 7, 8, 9, 10, 11, 12, 13, 14], [0, 1, 2, 3, 4, 5, 6, 7, 8, 9, 10, 11, 12, 13, 14, 15], [0, 1, 2, 3, 4, 5, 6, 7, 8, 9, 10, 11, 12, 13, 14, 15, 16], [0, 1, 2, 3, 4, 5, 6, 7, 8, 9, 10, 11, 12, 13, 14, 15, 16], [0, 1, 2, 3, 4, 5, 6, 7, 8, 9, 10, 11, 12, 13, 14, 15, 16, 18], [0, 1, 2, 3, 4, 5, 6, 7, 8, 9, 10, 11, 12, 13, 14, 15, 16, 17, 18, 19], [0, 1, 2, 3, 4, 5, 6, 7, 8, 9, 10, 11, 12, 13, 14, 15, 16, 17, 18, 19, 20], [0, 1, 2, 3, 4, 5, 6, 7, 8, 9, 10, 11, 12, 13, 14, 15, 16, 17, 18, 19, 20, 21], [0, 1, 2, 3, 4, 5, 6, 7, 8, 9, 10, 11, 12, 13, 14, 15, 16, 17, 18, 19, 20, 21], [0, 1, 2, 3, 4, 5, 6, 7, 8, 9, 10, 11, 12, 13, 14, 15, 16, 17, 18, 19, 20, 21, 22, 23], [0, 1, 2, 3, 4, 5, 6, 7, 8, 9, 10, 11, 12, 13, 14, 15, 16, 17, 18, 19, 20, 21, 22, 23, 24], [0, 1, 2, 3, 4, 5, 6, 7, 8, 9, 10, 11, 12, 13, 14, 15, 16, 17, 18, 19, 20, 21], [0, 1, 2, 3, 4, 5, 6, 7, 8, 9, 10, 11, 12, 13, 14, 15, 16, 17, 18, 19, 20, 21], [0, 1, 2, 3, 4, 5, 6, 7, 8, 9, 10, 11, 12, 13, 14, 15, 16, 17, 18, 19, 20, 21, 27], [0, 1, 2, 3, 4, 5, 6, 7, 8, 9, 10, 11, 12, 13, 14, 15, 16, 17, 18, 19, 20, 21, 26, 27, 28], [0, 1, 2, 3, 4, 5, 6, 7, 8, 9, 10, 11, 12, 13, 14, 15, 16, 17, 18, 19, 20, 21, 26, 27, 28, 29], [0, 1, 2, 3, 4, 5, 6, 7, 8, 9, 10, 11, 12, 13, 14, 15, 16, 17, 18, 19, 20, 21, 22, 23, 24, 25, 26, 27, 28, 29, 30], [0, 1, 2, 3, 4, 5, 6, 7, 8, 9, 10, 11, 12, 13, 14, 15, 16, 17, 18, 19, 20, 21, 22, 23, 24, 25, 26, 27, 28, 29, 30, 31], [0, 1, 2, 3, 4, 5, 6, 7, 8, 9, 10, 11, 12, 13, 14, 15, 16, 17, 18, 19, 20, 21, 22, 23, 24, 25, 26, 27, 28, 29, 30, 31, 32], [0, 1, 2, 3, 4, 5, 6, 7, 8, 9, 10, 11, 12, 13, 14, 15, 16, 17, 18, 19, 20, 21, 22, 23, 24, 25, 26, 27, 28, 29, 30, 31, 32, 33]], [[6], [1], [24], [23, 25], [26], [5, 27], [6, 27], [27, 28, 29], [27, 30], [1, 27], [6, 27], [27, 32, 33], [27, 34], [27, 31, 35], [27, 36], [27, 37], [38], [6, 39], [1, 39], [39, 41], [39, 40, 42], [39, 43], [5, 44], [6, 44], [44, 45, 46], [44, 47], [6, 44], [1, 44], [44, 50], [44, 49, 51], [44, 52], [44, 48, 53], [44, 54], [39, 44, 55], [39, 56]], [[], [], [], [], [], [], [], [], [], [], [], [], [], [], [], [], [], [], [], [], [], [], [], [], [], [], [], [], [], [], [], [], [], [], []], [none, none, none, none, none, none, none, none, none, none, none, none, none, none, none, none, none, none, none, none, none, none, none, none, none, none, none, none, none, none, none, none, none, none, none]⟩ mo r28_7_ok (by decide +kernel) (l := r28_7.toList) rfl ?_
    refine d_op rfl rfl rfl (fun _ => o_mv rfl) ?_
    refine d_op rfl rfl rfl (fun _ => o_mv rfl) ?_
    refine d_op rfl rfl rfl (fun _ => o_len rfl rfl (by first | exact List.length_map .. | rfl) tl32) ?_
    refine d_if rfl rfl rfl (fun _ => o_lt rfl rfl) (fun h5 => ?_) (fun h6 => ?_)
    · have hI : i < l.length := by omega
      have hA := at_lo ruleAV (m := mks mkRule 12) hI
      refine d_op rfl rfl rfl (fun _ => o_mv rfl) ?_
      refine d_op rfl rfl rfl (fun _ => o_mv rfl) ?_
      refine d_op rfl rfl rfl (fun _ => o_mv rfl) ?_
      refine d_op rfl rfl rfl (fun _ => o_ix te32 tn37 rfl rfl rfl hA) ?_
      refine d_op rfl rfl rfl (fun _ => (by first | exact o_ldg tg37 tn37 rfl rfl | exact o_ldpg tg37 tn37 rfl rfl rfl rfl)) ?_
      refine d_op rfl rfl rfl (fun _ => o_mv rfl) ?_
      refine d_op rfl rfl rfl (fun _ => o_mv rfl) ?_
      refine d_op rfl rfl rfl (fun _ => o_ix te32 tn37 rfl rfl rfl (ixm _ _ _ hI)) ?_
      refine d_op rfl rfl rfl (fun _ => (by first | exact o_ldg tg37 tn37 rfl rfl | exact o_ldpg tg37 tn37 rfl rfl rfl rfl)) ?_
      refine d_op rfl rfl rfl (fun _ => o_seq eq37 rfl rfl rfl (scs37 ..)) ?_
      refine d_op rfl rfl rfl (fun _ => o_ntt rfl) ?_
      refine d_op rfl rfl rfl (fun _ => o_pkt rfl rfl) ?_
      refine d_op rfl rfl rfl (fun _ => o_mv rfl) ?_
      refine d_op rfl rfl rfl (fun _ => o_mv rfl) ?_
      refine d_op rfl rfl rfl (fun _ => o_mv rfl) ?_
      refine d_op rfl rfl rfl (fun _ => o_len rfl rfl (by first | exact List.length_map .. | rfl) tl32) ?_
      refine d_if rfl rfl rfl (fun _ => o_ge rfl rfl) (fun h7 => ?_) (fun h8 => ?_)
      · omega
      refine d_op rfl rfl rfl (fun _ => o_mv rfl) ?_
      refine d_off rfl rfl ?_
      refine d_off rfl rfl ?_
      refine d_off rfl rfl ?_
      refine d_off rfl rfl ?_
      refine d_off rfl rfl ?_
      refine d_off rfl rfl ?_
      refine d_off rfl rfl ?_
      refine d_off rfl rfl ?_
      refine d_off rfl rfl ?_
      refine d_off rfl rfl ?_
      refine d_off rfl rfl ?_
      refine d_op rfl rfl rfl (fun _ => o_pkf rfl rfl) ?_
      refine d_op rfl rfl rfl (fun _ => o_pkf rfl rfl) ?_
      refine d_nil ?_
      refine tq_n ?_
      refine w_false rfl ?_
      refine awp_skip ?_
      refine bq_n ?_
      refine tq_n ?_
      refine w_reg (l := r28_6.toList) rfl r28_6_ok ?_
      refine a_op rfl (o_mv rfl) ?_
      refine a_op rfl (o_add rfl rfl (by simp only [klo, khi]; omega)) ?_
      refine a_op rfl (o_as rfl) ?_
      refine a_nil ?_
      refine tq_n ?_
      exact ⟨i + 1, ⟨by omega, by omega⟩, ⟨(by first | exact sub_int rfl (by omega) | rfl | exact sub_eq rfl (by rw [List.take_of_length_le (by simp [mks])])), (by first | exact sub_int rfl (by omega) | rfl | exact sub_eq rfl (by rw [List.take_of_length_le (by simp [mks])])), (by first | exact sub_int rfl (by omega) | rfl | exact sub_eq rfl (by rw [List.take_of_length_le (by simp [mks])])), (by first | exact sub_int rfl (by omega) | rfl | exact sub_eq rfl (by rw [List.take_of_length_le (by simp [mks])])), trivial⟩, rfl⟩
    refine d_op rfl rfl rfl (fun _ => o_mv rfl) ?_
    refine d_off rfl rfl ?_
    refine d_off rfl rfl ?_
    refine d_off rfl rfl ?_
    refine d_off rfl rfl ?_
    refine d_off rfl rfl ?_
    refine d_off rfl rfl ?_
    refine d_off rfl rfl ?_
    refine d_off rfl rfl ?_
    refine d_off rfl rfl ?_
    refine d_off rfl rfl ?_
    refine d_op rfl rfl rfl (fun _ => o_pkf rfl rfl) ?_
    refine d_op rfl rfl rfl (fun _ => o_mv rfl) ?_
    refine d_op rfl rfl rfl (fun _ => o_mv rfl) ?_
    refine d_op rfl rfl rfl (fun _ => o_mv rfl) ?_
    refine d_op rfl rfl rfl (fun _ => o_len rfl rfl (by first | exact List.length_map .. | rfl) tl32) ?_
    refine d_if rfl rfl rfl (fun _ => o_ge rfl rfl) (fun h9 => ?_) (fun h10 => ?_)
    · have hB := at_hi ruleAV mkRule (l := l) (i := i) (n := 12) (by omega) (by omega)
      have hk0 : 0 ≤ (i : Int) - (l.length : Int) := by omega
      have hk1 : (i : Int) - (l.length : Int) < 12 := by omega
      refine d_op rfl rfl rfl (fun _ => o_mv rfl) ?_
      refine d_op rfl rfl rfl (fun _ => o_mv rfl) ?_
      refine d_op rfl rfl rfl (fun _ => o_mv rfl) ?_
      refine d_op rfl rfl rfl (fun _ => o_ix te32 tn37 rfl rfl rfl hB) ?_
      refine d_op rfl rfl rfl (fun _ => (by first | exact o_ldg tg37 tn37 rfl rfl | exact o_ldpg tg37 tn37 rfl rfl rfl rfl)) ?_
      refine d_op rfl rfl rfl (fun _ => o_mv rfl) ?_
      refine d_op rfl rfl rfl (fun _ => o_mv rfl) ?_
      refine d_op rfl rfl rfl (fun _ => o_len rfl rfl (by first | exact List.length_map .. | rfl) tl32) ?_
      refine d_op rfl rfl rfl (fun _ => o_sub rfl rfl (by simp only [klo, khi]; omega)) ?_
      refine d_pure rfl rfl rfl rfl cb45 (mkRule_ok _ hk0 hk1) ?_
      refine d_op rfl rfl rfl (fun _ => o_seq eq37 rfl rfl rfl (scs37 ..)) ?_
      refine d_op rfl rfl rfl (fun _ => o_ntt rfl) ?_
      refine d_op rfl rfl rfl (fun _ => o_pkt rfl rfl) ?_
      refine d_op rfl rfl rfl (fun _ => o_pkf rfl rfl) ?_
      refine d_nil ?_
      refine tq_n ?_
      refine w_false rfl ?_
      refine awp_skip ?_
      refine bq_n ?_
      refine tq_n ?_
      refine w_reg (l := r28_6.toList) rfl r28_6_ok ?_
      refine a_op rfl (o_mv rfl) ?_
      refine a_op rfl (o_add rfl rfl (by simp only [klo, khi]; omega)) ?_
      refine a_op rfl (o_as rfl) ?_
      refine a_nil ?_
      refine tq_n ?_
      exact ⟨i + 1, ⟨by omega, by omega⟩, ⟨(by first | exact sub_int rfl (by omega) | rfl | exact sub_eq rfl (by rw [List.take_of_length_le (by simp [mks])])), (by first | exact sub_int rfl (by omega) | rfl | exact sub_eq rfl (by rw [List.take_of_length_le (by simp [mks])])), (by first | exact sub_int rfl (by omega) | rfl | exact sub_eq rfl (by rw [List.take_of_length_le (by simp [mks])])), (by first | exact sub_int rfl (by omega) | rfl | exact sub_eq rfl (by rw [List.take_of_length_le (by simp [mks])])), trivial⟩, rfl⟩
    omega
  refine a_nil ?_
  refine tq_n ?_
  refine w_false rfl ?_
  refine awp_exit ?_
  refine tq_x ?_
  refine tq_x ?_
  refine bq_hit ?_
  refine tq_n ?_
  refine awp_seq ?_
  refine w_reg (l := r28_9.toList) rfl r28_9_ok ?_
  refine a_op rfl (o_as rfl) ?_
  refine a_nil ?_
  refine tq_n ?_
  refine awp_ret ?_
  refine r_one rfl ⟨rfl, trivial⟩ ?_
  exact rs_pur (by simp) rfl
noncomputable def r43_0 : Array Oper := opsAt Tryd.f43 [0]
theorem r43_0_ok : dstOk 25 r43_0.toList = true ∧ r43_0.toList.all (fun o => noDefer o.op) = true := by decide +kernel
noncomputable def r43_1 : Array Oper := opsAt Tryd.f43 [1, 0]
theorem r43_1_ok : dstOk 25 r43_1.toList = true ∧ r43_1.toList.all (fun o => noDefer o.op) = true := by decide +kernel
noncomputable def r43_2 : Array Oper := opsAt Tryd.f43 [1, 1, 0]
theorem r43_2_ok : dstOk 25 r43_2.toList = true ∧ r43_2.toList.all (fun o => noDefer o.op) = true := by decide +kernel
noncomputable def r43_3 : Array Oper := opsAt Tryd.f43 [1, 1, 1, 0, 0]
theorem r43_3_ok : dstOk 25 r43_3.toList = true ∧ r43_3.toList.all (fun o => noDefer o.op) = true := by decide +kernel
noncomputable def r43_4 : Array Oper := opsAt Tryd.f43 [1, 1, 1, 0, 1, 0, 0, 0, 0]
theorem r43_4_ok : dstOk 25 r43_4.toList = true ∧ r43_4.toList.all (fun o => noDefer o.op) = true := by decide +kernel
noncomputable def r43_6 : Array Oper := opsAt Tryd.f43 [1, 1, 1, 0, 1, 0, 0, 1, 0, 0]
theorem r43_6_ok : dstOk 25 r43_6.toList = true ∧ r43_6.toList.all (fun o => noDefer o.op) = true := by decide +kernel
noncomputable def r43_5 : Array Oper := opsAt Tryd.f43 [1, 1, 1, 0, 1, 0, 0, 1, 1]
theorem r43_5_ok : dstOk 25 r43_5.toList = true ∧ r43_5.toList.all (fun o => noDefer o.op) = true := by decide +kernel
noncomputable def b43_0 : Code := (.seq (.seq (.region 4 r43_4 false) (.cond (.tmp 13) .skip (.exit 0))) (.seq (.block 1 (.region 6 r43_6 false)) (.region 5 r43_5 false)))
noncomputable def r43_7 : Array Oper := opsAt Tryd.f43 [1, 1, 1, 1, 0]
theorem r43_7_ok : dstOk 25 r43_7.toList = true ∧ r43_7.toList.all (fun o => noDefer o.op) = true := by decide +kernel
noncomputable def c43 : Code := (.seq (.region 0 r43_0 false) (.seq (.region 1 r43_1 false) (.seq (.region 2 r43_2 false) (.seq (.seq (.region 3 r43_3 false) (.block 0 (.loop b43_0))) (.seq (.region 7 r43_7 false) .ret)))))
theorem body43 : Tryd.f43.body = some c43 := by kernel_rfl
theorem lentRanges_ok (b : Bool) (l : List RangeR) (hl : l.length * 64 ≤ 140737488351232) : PureCall Tryd.prog GL 43 [.sl 7 b (l.map rangeAV)] (.slb 7 l.length ((l ++ mks mkRange 12).map rangeAV)) := by
  refine pure_of_body Tryd.func43 body43 (Nat.le_of_ble_eq_true rfl) (by simp) (.slb (pu_rng _)) ?_
  refine w_keep [(0, .sl 7 b (l.map rangeAV))] ⟨rfl, trivial⟩ ?_
  unfold c43
  refine awp_seq ?_
  refine w_reg (l := r43_0.toList) rfl r43_0_ok ?_
  refine a_op rfl (o_as rfl) ?_
  refine a_nil ?_
  refine tq_n ?_
  refine awp_seq ?_
  refine w_reg (l := r43_1.toList) rfl r43_1_ok ?_
  refine a_op rfl (o_mv rfl) ?_
  refine a_op rfl (o_len rfl rfl (by first | exact List.length_map .. | rfl) tl27) ?_
  refine a_op rfl (o_add rfl rfl (by simp only [klo, khi]; omega)) ?_
  refine a_op rfl (o_ms tE27 rfl rfl (by decide) (by omega) (by omega) (by omega) rfl rfl) ?_
  refine a_op rfl (o_as rfl) ?_
  refine a_nil ?_
  refine tq_n ?_
  refine awp_seq ?_
  refine w_reg (l := r43_2.toList) rfl r43_2_ok ?_
  refine a_op rfl (o_mv rfl) ?_
  refine a_op rfl (o_mv rfl) ?_
  refine a_op rfl (o_ap tE27 rfl rfl rfl rfl rfl (good_rng _ _) (by simp; omega) (by simp; omega) rfl rfl rfl rfl) ?_
  refine a_op rfl (o_as rfl) ?_
  refine a_nil ?_
  refine tq_n ?_
  refine awp_seq ?_
  refine awp_seq ?_
  refine w_reg (l := r43_3.toList) rfl r43_3_ok ?_
  refine a_op rfl (o_as rfl) ?_
  refine a_nil ?_
  refine tq_n ?_
  refine awp_block ?_
  refine w_loop (fun i : Nat => i ≤ 12) (fun i => [(0, .sl 7 b (l.map rangeAV)), (3, .slo 0 (1 + i) 0 (l.length + i)), (4, .raw (.int .i64 (i : Int)))]) (fun i => [.vec 7 (1 + i) ((l ++ mks mkRange i).map rangeAV)]) (fun i => 12 - i) (0) (by omega) ⟨(by first | exact sub_int rfl (by omega) | rfl | exact sub_eq rfl (by simp)), (by first | exact sub_int rfl (by omega) | rfl | exact sub_eq rfl (by simp)), (by first | exact sub_int rfl (by omega) | rfl | exact sub_eq rfl (by simp)), trivial⟩ (by simp [mks]) ?_
  intro i hp1
  unfold b43_0
  refine awp_seq ?_
  refine awp_seq ?_
  refine w_reg (l := r43_4.toList) rfl r43_4_ok ?_
  refine a_op rfl (o_mv rfl) ?_
  refine a_if rfl (o_lt rfl rfl) (fun h1 => ?_) (fun h2 => ?_)
  · refine a_nil ?_
    refine tq_n ?_
    refine w_true rfl ?_
    refine awp_skip ?_
    refine tq_n ?_
    refine awp_seq ?_
    refine awp_block ?_
    refine w_reg (l := r43_6.toList) rfl r43_6_ok ?_
    refine a_op rfl (o_mv rfl) ?_
    refine a_op rfl (o_mv rfl) ?_
    refine a_pure rfl rfl rfl cb72 (mkRange_ok _ (by omega) (by omega)) ?_
    refine a_op rfl (o_bs tE27 (by decide) rfl rfl rfl) ?_
    refine a_op rfl (o_ap tE27 rfl rfl (by simp [mks]) rfl rfl rfl (by simp [mks]; omega) (by simp [mks]; omega) rfl rfl rfl rfl) ?_
    refine a_op rfl (o_as rfl) ?_
    refine a_nil ?_
    refine bq_n ?_
    refine tq_n ?_
    refine w_reg (l := r43_5.toList) rfl r43_5_ok ?_
    refine a_op rfl (o_mv rfl) ?_
    refine a_op rfl (o_add rfl rfl (by simp only [klo, khi]; omega)) ?_
    refine a_op rfl (o_as rfl) ?_
    refine a_nil ?_
    refine tq_n ?_
    exact ⟨i + 1, ⟨by omega, by omega⟩, ⟨(by first | exact sub_int rfl (by omega) | rfl | exact sub_eq rfl (by simp)), (by first | exact sub_int rfl (by omega) | rfl | exact sub_eq rfl (by simp)), (by first | exact sub_int rfl (by omega) | rfl | exact sub_eq rfl (by simp)), trivial⟩, by rw [mks_succ, ← List.append_assoc, List.map_append (l₂ := [_])]; rfl⟩
  refine a_nil ?_
  refine tq_n ?_
  refine w_false rfl ?_
  refine awp_exit ?_
  refine tq_x ?_
  refine tq_x ?_
  refine bq_hit ?_
  refine tq_n ?_
  refine awp_seq ?_
  refine w_reg (l := r43_7.toList) rfl r43_7_ok ?_
  refine a_op rfl (o_mv rfl) ?_
  refine a_op rfl (o_mv rfl) ?_
  refine a_op rfl (o_len rfl rfl (by first | exact List.length_map .. | rfl) tl27) ?_
  refine a_op rfl (o_slh te27 tn121 rfl rfl rfl rfl (by simp)) ?_
  refine a_op rfl (o_as rfl) ?_
  refine a_nil ?_
  refine tq_n ?_
  refine awp_ret ?_
  refine r_one rfl ⟨rfl, trivial⟩ ?_
  have hi : i = 12 := by omega
  subst hi
  exact rs_slob id rfl (by simp) (pu_rng _) rfl
noncomputable def r52_0 : Array Oper := opsAt Tryd.f52 [0]
theorem r52_0_ok : dstOk 58 r52_0.toList = true ∧ r52_0.toList.all (fun o => noDefer o.op) = true := by decide +kernel
noncomputable def r52_1 : Array Oper := opsAt Tryd.f52 [1, 0, 0]
theorem r52_1_ok : dstOk 58 r52_1.toList = true ∧ r52_1.toList.all (fun o => noDefer o.op) = true := by decide +kernel
noncomputable def r52_2 : Array Oper := opsAt Tryd.f52 [1, 0, 1, 0, 0]
theorem r52_2_ok : dstOk 58 r52_2.toList = true ∧ r52_2.toList.all (fun o => noDefer o.op) = true := by decide +kernel
noncomputable def r52_3 : Array Oper := opsAt Tryd.f52 [1, 1, 0]
theorem r52_3_ok : dstOk 58 r52_3.toList = true ∧ r52_3.toList.all (fun o => noDefer o.op) = true := by decide +kernel
noncomputable def r52_4 : Array Oper := opsAt Tryd.f52 [1, 1, 1, 0, 0]
theorem r52_4_ok : dstOk 58 r52_4.toList = true ∧ r52_4.toList.all (fun o => noDefer o.op) = true := by decide +kernel
noncomputable def r52_5 : Array Oper := opsAt Tryd.f52 [1, 1, 1, 0, 1, 0, 0, 0, 0]
theorem r52_5_ok : dstOk 58 r52_5.toList = true ∧ r52_5.toList.all (fun o => noDefer o.op) = true := by decide +kernel
noncomputable def r52_7 : Array Oper := opsAt Tryd.f52 [1, 1, 1, 0, 1, 0, 0, 1, 0, 0, 0]
theorem r52_7_ok : dstOk 58 r52_7.toList = true ∧ r52_7.toList.all (fun o => noDefer o.op) = true := by decide +kernel
noncomputable def r52_8 : Array Oper := opsAt Tryd.f52 [1, 1, 1, 0, 1, 0, 0, 1, 0, 0, 1, 0, 0]
theorem r52_8_ok : dstOk 58 r52_8.toList = true ∧ r52_8.toList.all (fun o => noDefer o.op) = true := by decide +kernel
noncomputable def r52_6 : Array Oper := opsAt Tryd.f52 [1, 1, 1, 0, 1, 0, 0, 1, 1]
theorem r52_6_ok : dstOk 58 r52_6.toList = true ∧ r52_6.toList.all (fun o => noDefer o.op) = true := by decide +kernel
noncomputable def b52_0 : Code := (.seq (.seq (.region 5 r52_5 false) (.cond (.tmp 20) .skip (.exit 0))) (.seq (.block 1 (.seq (.region 7 r52_7 true) (.cond (.tmp 57) (.seq (.region 8 r52_8 false) .ret) .skip))) (.region 6 r52_6 false)))
noncomputable def r52_9 : Array Oper := opsAt Tryd.f52 [1, 1, 1, 1, 0]
theorem r52_9_ok : dstOk 58 r52_9.toList = true ∧ r52_9.toList.all (fun o => noDefer o.op) = true := by decide +kernel
noncomputable def c52 : Code := (.seq (.region 0 r52_0 false) (.seq (.seq (.region 1 r52_1 false) (.cond (.tmp 11) (.seq (.region 2 r52_2 false) .ret) .skip)) (.seq (.region 3 r52_3 false) (.seq (.seq (.region 4 r52_4 false) (.block 0 (.loop b52_0))) (.seq (.region 9 r52_9 false) .ret)))))
theorem body52 : Tryd.f52.body = some c52 := by kernel_rfl
theorem keptRanges_ok (b : Bool) (l : List RangeR) (hl : l.length * 64 ≤ 140737488351232) : PureCall Tryd.prog GL 52 [.slb 7 l.length ((l ++ mks mkRange 12).map rangeAV), .sl 7 b (l.map rangeAV)] (.raw (.bool true)) := by
  refine pure_of_body Tryd.func52 body52 (Nat.le_of_ble_eq_true rfl) (pur2 (.slb (pu_rng _)) (.sl (pu_rng _))) (by simp) ?_
  refine w_keep [(0, .slb 7 l.length ((l ++ mks mkRange 12).map rangeAV)), (1, .sl 7 b (l.map rangeAV))] ⟨rfl, rfl, trivial⟩ ?_
  unfold c52
  have hlen : (l ++ mks mkRange 12).length = l.length + 12 := by simp [mks]
  refine awp_seq ?_
  refine w_reg (l := r52_0.toList) rfl r52_0_ok ?_
  refine a_op rfl (o_as rfl) ?_
  refine a_nil ?_
  refine tq_n ?_
  refine awp_seq ?_
  refine awp_seq ?_
  refine w_reg (l := r52_1.toList) rfl r52_1_ok ?_
  refine a_op rfl (o_mv rfl) ?_
  refine a_op rfl (o_len rfl rfl (by first | exact List.length_map .. | rfl) tl27) ?_
  refine a_op rfl (o_mv rfl) ?_
  refine a_op rfl (o_len rfl rfl (by first | exact List.length_map .. | rfl) tl27) ?_
  refine a_if rfl (o_ne rfl rfl) (fun h1 => ?_) (fun h2 => ?_)
  · omega
  refine a_nil ?_
  refine tq_n ?_
  refine w_false rfl ?_
  refine awp_skip ?_
  refine tq_n ?_
  refine awp_seq ?_
  refine w_reg (l := r52_3.toList) rfl r52_3_ok ?_
  refine a_op rfl (o_mv rfl) ?_
  refine a_op rfl (o_mv rfl) ?_
  refine a_op rfl (o_len rfl rfl (by first | exact List.length_map .. | rfl) tl27) ?_
  refine a_op rfl (o_add rfl rfl (by simp only [klo, khi]; omega)) ?_
  refine a_op rfl (o_slb (m := l.length + 12) te27 tn121 rfl rfl (by omega) (by simp [mks])) ?_
  refine a_op rfl (o_as rfl) ?_
  refine a_nil ?_
  refine tq_n ?_
  refine awp_seq ?_
  refine awp_seq ?_
  refine w_reg (l := r52_4.toList) rfl r52_4_ok ?_
  refine a_op rfl (o_as rfl) ?_
  refine a_nil ?_
  refine tq_n ?_
  refine awp_block ?_
  refine w_loop (fun i : Nat => i ≤ l.length + 12) (fun i => [(0, .slb 7 l.length ((l ++ mks mkRange 12).map rangeAV)), (1, .sl 7 b (l.map rangeAV)), (5, .sl 7 false ((l ++ mks mkRange 12).map rangeAV)), (6, .raw (.int .i64 (i : Int)))]) (fun _ => []) (fun i => l.length + 12 - i) (0) (by omega) ⟨(by first | exact sub_int rfl (by omega) | rfl | exact sub_eq rfl (by rw [List.take_of_length_le (by simp [mks])])), (by first | exact sub_int rfl (by omega) | rfl | exact sub_eq rfl (by rw [List.take_of_length_le (by simp [mks])])), (by first | exact sub_int rfl (by omega) | rfl | exact sub_eq rfl (by rw [List.take_of_length_le (by simp [mks])])), (by first | exact sub_int rfl (by omega) | rfl | exact sub_eq rfl (by rw [List.take_of_length_le (by simp [mks])])), trivial⟩ rfl ?_
  intro i hp1
  unfold b52_0
  refine awp_seq ?_
  refine awp_seq ?_
  refine w_reg (l := r52_5.toList) rfl r52_5_ok ?_
  refine a_op rfl (o_mv rfl) ?_
  refine a_op rfl (o_mv rfl) ?_
  refine a_op rfl (o_len rfl rfl (by first | exact List.length_map .. | rfl) tl27) ?_
  refine a_if rfl (o_lt rfl rfl) (fun h3 => ?_) (fun h4 => ?_)
  · refine a_nil ?_
    refine tq_n ?_
    refine w_true rfl ?_
    refine awp_skip ?_
    refine tq_n ?_
    refine awp_seq ?_
    refine awp_block ?_
    refine awp_seq ?_
    refine awp_draw ⟨[[], [], [1], [0, 1, 2], [0, 1, 2, 3], [0, 1, 2, 3, 4], [0, 1, 2, 3, 4], [0, 1, 2, 3, 4, 5, 6], [0, 1, 2, 3, 4, 5, 6, 7], [0, 1, 2, 3, 4], [0, 1, 2, 3, 4], [0, 1, 2, 3, 4, 9, 10], [0, 1, 2, 3, 4, 9, 10, 11], [0, 1, 2, 3, 4, 5, 6, 7, 8, 9, 10, 11, 12], [0, 1, 2, 3, 4, 5, 6, 7, 8, 9, 10, 11, 12, 13], [0, 1, 2, 3, 4, 5, 6, 7, 8, 9, 10, 11, 12, 13, 14], [0, 1, 2, 3, 4, 5, 6, 7, 8, 9, 10, 11, 12, 13, 14, 15], [0, 1, 2, 3, 4, 5, 6, 7, 8, 9, 10, 11, 12, 13, 14, 15, 16], [0, 1, 2, 3, 4, 5, 6, 7, 8, 9, 10, 11, 12, 13, 14, 15, 16], [0, 1, 2, 3, 4, 5, 6, 7, 8, 9, 10, 11, 12, 13, 14, 15, 16, 18], [0, 1, 2, 3, 4, 5, 6, 7, 8, 9, 10, 11, 12, 13, 14, 15, 16, 17, 18, 19], [0, 1, 2, 3, 4, 5, 6, 7, 8, 9, 10, 11, 12, 13, 14, 15, 16, 17, 18, 19, 20], [0, 1, 2, 3, 4, 5, 6, 7, 8, 9, 10, 11, 12, 13, 14, 15, 16, 17, 18, 19, 20, 21], [0, 1, 2, 3, 4, 5, 6, 7, 8, 9, 10, 11, 12, 13, 14, 15, 16, 17, 18, 19, 20, 21], [0, 1, 2, 3, 4, 5, 6, 7, 8, 9, 10, 11, 12, 13, 14, 15, 16, 17, 18, 19, 20, 21, 22, 23], [0, 1, 2, 3, 4, 5, 6, 7, 8, 9, 10, 11, 12, 13, 14, 15, 16, 17, 18, 19, 20, 21, 22, 23, 24], [0, 1, 2, 3, 4, 5, 6, 7, 8, 9, 10, 11, 12, 13, 14, 15, 16, 17, 18, 19, 20, 21], [0, 1, 2, 3, 4, 5, 6, 7, 8, 9, 10, 11, 12, 13, 14, 15, 16, 17, 18, 19, 20, 21], [0, 1, 2, 3, 4, 5, 6, 7, 8, 9, 10, 11, 12, 13, 14, 15, 16, 17, 18, 19, 20, 21, 27], [0, 1, 2, 3, 4, 5, 6, 7, 8, 9, 10, 11, 12, 13, 14, 15, 16, 17, 18, 19, 20, 21, 26, 27, 28], [0, 1, 2, 3, 4, 5, 6, 7, 8, 9, 10, 11, 12, 13, 14, 15, 16, 17, 18, 19, 20, 21, 26, 27, 28, 29], [0, 1, 2, 3, 4, 5, 6, 7, 8, 9, 10, 11, 12, 13, 14, 15, 16, 17, 18, 19, 20, 21, 22, 23, 24, 25, 26, 27, 28, 29, 30], [0, 1, 2, 3, 4, 5, 6, 7, 8, 9, 10, 11, 12, 13, 14, 15, 16, 17, 18, 19, 20, 21, 22, 23, 24, 25, 26, 27, 28, 29, 30, 31], [0, 1, 2, 3, 4, 5, 6, 7, 8, 9, 10, 11, 12, 13, 14, 15, 16, 17, 18, 19, 20, 21, 22, 23, 24, 25, 26, 27, 28, 29, 30, 31, 32], [0, 1, 2, 3, 4, 5, 6, 7, 8, 9, 10, 11, 12, 13, 14, 15, 16, 17, 18, 19, 20, 21, 22, 23, 24, 25, 26, 27, 28, 29, 30, 31, 32, 33]], [[6], [1], [24], [23, 25], [26], [5, 27], [6, 27], [27, 28, 29], [27, 30], [1, 27], [6, 27], [27, 32, 33], [27, 34], [27, 31, 35], [27, 36], [27, 37], [38], [6, 39], [1, 39], [39, 41], [39, 40, 42], [39, 43], [5, 44], [6, 44], [44, 45, 46], [44, 47], [6, 44], [1, 44], [44, 50], [44, 49, 51], [44, 52], [44, 48, 53], [44, 54], [39, 44, 55], [39, 56]], [[], [], [], [], [], [], [], [], [], [], [], [], [], [], [], [], [], [], [], [], [], [], [], [], [], [], [], [], [], [], [], [], [], [], []], [none, none, none, none, none, none, none, none, none, none, none, none, none, none, none, none, none, none, none, none, none, none, none, none, none, none, none, none, none, none, none, none, none, none, none]⟩ mo r52_7_ok (by decide +kernel) (l := r52_7.toList) rfl ?_
    refine d_op rfl rfl rfl (fun _ => o_mv rfl) ?_
    refine d_op rfl rfl rfl (fun _ => o_mv rfl) ?_
    refine d_op rfl rfl rfl (fun _ => o_len rfl rfl (by first | exact List.length_map .. | rfl) tl27) ?_
    refine d_if rfl rfl rfl (fun _ => o_lt rfl rfl) (fun h5 => ?_) (fun h6 => ?_)
    · have hI : i < l.length := by omega
      have hA := at_lo rangeAV (m := mks mkRange 12) hI
      refine d_op rfl rfl rfl (fun _ => o_mv rfl) ?_
      refine d_op rfl rfl rfl (fun _ => o_mv rfl) ?_
      refine d_op rfl rfl rfl (fun _ => o_mv rfl) ?_
      refine d_op rfl rfl rfl (fun _ => o_ix te27 tn121 rfl rfl rfl hA) ?_
      refine d_op rfl rfl rfl (fun _ => (by first | exact o_ldg tg121 tn121 rfl rfl | exact o_ldpg tg121 tn121 rfl rfl rfl rfl)) ?_
      refine d_op rfl rfl rfl (fun _ => o_mv rfl) ?_
      refine d_op rfl rfl rfl (fun _ => o_mv rfl) ?_
      refine d_op rfl rfl rfl (fun _ => o_ix te27 tn121 rfl rfl rfl (ixm _ _ _ hI)) ?_
      refine d_op rfl rfl rfl (fun _ => (by first | exact o_ldg tg121 tn121 rfl rfl | exact o_ldpg tg121 tn121 rfl rfl rfl rfl)) ?_
      refine d_op rfl rfl rfl (fun _ => o_seq eq121 rfl rfl rfl (scs121 ..)) ?_
      refine d_op rfl rfl rfl (fun _ => o_ntt rfl) ?_
      refine d_op rfl rfl rfl (fun _ => o_pkt rfl rfl) ?_
      refine d_op rfl rfl rfl (fun _ => o_mv rfl) ?_
      refine d_op rfl rfl rfl (fun _ => o_mv rfl) ?_
      refine d_op rfl rfl rfl (fun _ => o_mv rfl) ?_
      refine d_op rfl rfl rfl (fun _ => o_len rfl rfl (by first | exact List.length_map .. | rfl) tl27) ?_
      refine d_if rfl rfl rfl (fun _ => o_ge rfl rfl) (fun h7 => ?_) (fun h8 => ?_)
      · omega
      refine d_op rfl rfl rfl (fun _ => o_mv rfl) ?_
      refine d_off rfl rfl ?_
      refine d_off rfl rfl ?_
      refine d_off rfl rfl ?_
      refine d_off rfl rfl ?_
      refine d_off rfl rfl ?_
      refine d_off rfl rfl ?_
      refine d_off rfl rfl ?_
      refine d_off rfl rfl ?_
      refine d_off rfl rfl ?_
      refine d_off rfl rfl ?_
      refine d_off rfl rfl ?_
      refine d_op rfl rfl rfl (fun _ => o_pkf rfl rfl) ?_
      refine d_op rfl rfl rfl (fun _ => o_pkf rfl rfl) ?_
      refine d_nil ?_
      refine tq_n ?_
      refine w_false rfl ?_
      refine awp_skip ?_
      refine bq_n ?_
      refine tq_n ?_
      refine w_reg (l := r52_6.toList) rfl r52_6_ok ?_
      refine a_op rfl (o_mv rfl) ?_
      refine a_op rfl (o_add rfl rfl (by simp only [klo, khi]; omega)) ?_
      refine a_op rfl (o_as rfl) ?_
      refine a_nil ?_
      refine tq_n ?_
      exact ⟨i + 1, ⟨by omega, by omega⟩, ⟨(by first | exact sub_int rfl (by omega) | rfl | exact sub_eq rfl (by rw [List.take_of_length_le (by simp [mks])])), (by first | exact sub_int rfl (by omega) | rfl | exact sub_eq rfl (by rw [List.take_of_length_le (by simp [mks])])), (by first | exact sub_int rfl (by omega) | rfl | exact sub_eq rfl (by rw [List.take_of_length_le (by simp [mks])])), (by first | exact sub_int rfl (by omega) | rfl | exact sub_eq rfl (by rw [List.take_of_length_le (by simp [mks])])), trivial⟩, rfl⟩
    refine d_op rfl rfl rfl (fun _ => o_mv rfl) ?_
    refine d_off rfl rfl ?_
    refine d_off rfl rfl ?_
    refine d_off rfl rfl ?_
    refine d_off rfl rfl ?_
    refine d_off rfl rfl ?_
    refine d_off rfl rfl ?_
    refine d_off rfl rfl ?_
    refine d_off rfl rfl ?_
    refine d_off rfl rfl ?_
    refine d_off rfl rfl ?_
    refine d_op rfl rfl rfl (fun _ => o_pkf rfl rfl) ?_
    refine d_op rfl rfl rfl (fun _ => o_mv rfl) ?_
    refine d_op rfl rfl rfl (fun _ => o_mv rfl) ?_
    refine d_op rfl rfl rfl (fun _ => o_mv rfl) ?_
    refine d_op rfl rfl rfl (fun _ => o_len rfl rfl (by first | exact List.length_map .. | rfl) tl27) ?_
    refine d_if rfl rfl rfl (fun _ => o_ge rfl rfl) (fun h9 => ?_) (fun h10 => ?_)
    · have hB := at_hi rangeAV mkRange (l := l) (i := i) (n := 12) (by omega) (by omega)
      have hk0 : 0 ≤ (i : Int) - (l.length : Int) := by omega
      have hk1 : (i : Int) - (l.length : Int) < 12 := by omega
      refine d_op rfl rfl rfl (fun _ => o_mv rfl) ?_
      refine d_op rfl rfl rfl (fun _ => o_mv rfl) ?_
      refine d_op rfl rfl rfl (fun _ => o_mv rfl) ?_
      refine d_op rfl rfl rfl (fun _ => o_ix te27 tn121 rfl rfl rfl hB) ?_
      refine d_op rfl rfl rfl (fun _ => (by first | exact o_ldg tg121 tn121 rfl rfl | exact o_ldpg tg121 tn121 rfl rfl rfl rfl)) ?_
      refine d_op rfl rfl rfl (fun _ => o_mv rfl) ?_
      refine d_op rfl rfl rfl (fun _ => o_mv rfl) ?_
      refine d_op rfl rfl rfl (fun _ => o_len rfl rfl (by first | exact List.length_map .. | rfl) tl27) ?_
      refine d_op rfl rfl rfl (fun _ => o_sub rfl rfl (by simp only [klo, khi]; omega)) ?_
      refine d_pure rfl rfl rfl rfl cb72 (mkRange_ok _ hk0 hk1) ?_
      refine d_op rfl rfl rfl (fun _ => o_seq eq121 rfl rfl rfl (scs121 ..)) ?_
      refine d_op rfl rfl rfl (fun _ => o_ntt rfl) ?_
      refine d_op rfl rfl rfl (fun _ => o_pkt rfl rfl) ?_
      refine d_op rfl rfl rfl (fun _ => o_pkf rfl rfl) ?_
      refine d_nil ?_
      refine tq_n ?_
      refine w_false rfl ?_
      refine awp_skip ?_
      refine bq_n ?_
      refine tq_n ?_
      refine w_reg (l := r52_6.toList) rfl r52_6_ok ?_
      refine a_op rfl (o_mv rfl) ?_
      refine a_op rfl (o_add rfl rfl (by simp only [klo, khi]; omega)) ?_
      refine a_op rfl (o_as rfl) ?_
      refine a_nil ?_
      refine tq_n ?_
      exact ⟨i + 1, ⟨by omega, by omega⟩, ⟨(by first | exact sub_int rfl (by omega) | rfl | exact sub_eq rfl (by rw [List.take_of_length_le (by simp [mks])])), (by first | exact sub_int rfl (by omega) | rfl | exact sub_eq rfl (by rw [List.take_of_length_le (by simp [mks])])), (by first | exact sub_int rfl (by omega) | rfl | exact sub_eq rfl (by rw [List.take_of_length_le (by simp [mks])])), (by first | exact sub_int rfl (by omega) | rfl | exact sub_eq rfl (by rw [List.take_of_length_le (by simp [mks])])), trivial⟩, rfl⟩
    omega
  refine a_nil ?_
  refine tq_n ?_
  refine w_false rfl ?_
  refine awp_exit ?_
  refine tq_x ?_
  refine tq_x ?_
  refine bq_hit ?_
  refine tq_n ?_
  refine awp_seq ?_
  refine w_reg (l := r52_9.toList) rfl r52_9_ok ?_
  refine a_op rfl (o_as rfl) ?_
  refine a_nil ?_
  refine tq_n ?_
  refine awp_ret ?_
  refine r_one rfl ⟨rfl, trivial⟩ ?_
  exact rs_pur (by simp) rfl
noncomputable def r79_0 : Array Oper := opsAt Tryd.f79 [0]
theorem r79_0_ok : dstOk 26 r79_0.toList = true ∧ r79_0.toList.all (fun o => noDefer o.op) = true := by decide +kernel
noncomputable def r79_1 : Array Oper := opsAt Tryd.f79 [1, 0, 0]
theorem r79_1_ok : dstOk 26 r79_1.toList = true ∧ r79_1.toList.all (fun o => noDefer o.op) = true := by decide +kernel
noncomputable def r79_2 : Array Oper := opsAt Tryd.f79 [1, 0, 1, 0, 0]
theorem r79_2_ok : dstOk 26 r79_2.toList = true ∧ r79_2.toList.all (fun o => noDefer o.op) = true := by decide +kernel
noncomputable def r79_3 : Array Oper := opsAt Tryd.f79 [1, 1, 0, 0]
theorem r79_3_ok : dstOk 26 r79_3.toList = true ∧ r79_3.toList.all (fun o => noDefer o.op) = true := by decide +kernel
noncomputable def r79_4 : Array Oper := opsAt Tryd.f79 [1, 1, 0, 1, 0, 0, 0, 0]
theorem r79_4_ok : dstOk 26 r79_4.toList = true ∧ r79_4.toList.all (fun o => noDefer o.op) = true := by decide +kernel
noncomputable def r79_6 : Array Oper := opsAt Tryd.f79 [1, 1, 0, 1, 0, 0, 1, 0, 0, 0]
theorem r79_6_ok : dstOk 26 r79_6.toList = true ∧ r79_6.toList.all (fun o => noDefer o.op) = true := by decide +kernel
noncomputable def r79_7 : Array Oper := opsAt Tryd.f79 [1, 1, 0, 1, 0, 0, 1, 0, 0, 1, 0, 0]
theorem r79_7_ok : dstOk 26 r79_7.toList = true ∧ r79_7.toList.all (fun o => noDefer o.op) = true := by decide +kernel
noncomputable def r79_5 : Array Oper := opsAt Tryd.f79 [1, 1, 0, 1, 0, 0, 1, 1]
theorem r79_5_ok : dstOk 26 r79_5.toList = true ∧ r79_5.toList.all (fun o => noDefer o.op) = true := by decide +kernel
noncomputable def b79_0 : Code := (.seq (.seq (.region 4 r79_4 false) (.cond (.tmp 14) .skip (.exit 0))) (.seq (.block 1 (.seq (.region 6 r79_6 true) (.cond (.tmp 25) (.seq (.region 7 r79_7 false) .ret) .skip))) (.region 5 r79_5 false)))
noncomputable def r79_8 : Array Oper := opsAt Tryd.f79 [1, 1, 1, 0]
theorem r79_8_ok : dstOk 26 r79_8.toList = true ∧ r79_8.toList.all (fun o => noDefer o.op) = true := by decide +kernel
noncomputable def c79 : Code := (.seq (.region 0 r79_0 false) (.seq (.seq (.region 1 r79_1 false) (.cond (.tmp 10) (.seq (.region 2 r79_2 false) .ret) .skip)) (.seq (.seq (.region 3 r79_3 false) (.block 0 (.loop b79_0))) (.seq (.region 8 r79_8 false) .ret))))
theorem body79 : Tryd.f79.body = some c79 := by kernel_rfl
theorem sameRanges_ok (b : Bool) (l : List RangeR) (hl : l.length * 64 ≤ 140737488351232) : PureCall Tryd.prog GL 79 [.slb 7 l.length ((l ++ mks mkRange 12).map rangeAV), .sl 7 b (l.map rangeAV)] (.raw (.bool true)) := by
  refine pure_of_body Tryd.func79 body79 (Nat.le_of_ble_eq_true rfl) (pur2 (.slb (pu_rng _)) (.sl (pu_rng _))) (by simp) ?_
  refine w_keep [(0, .slb 7 l.length ((l ++ mks mkRange 12).map rangeAV)), (1, .sl 7 b (l.map rangeAV))] ⟨rfl, rfl, trivial⟩ ?_
  unfold c79
  refine awp_seq ?_
  refine w_reg (l := r79_0.toList) rfl r79_0_ok ?_
  refine a_op rfl (o_as rfl) ?_
  refine a_nil ?_
  refine tq_n ?_
  refine awp_seq ?_
  refine awp_seq ?_
  refine w_reg (l := r79_1.toList) rfl r79_1_ok ?_
  refine a_op rfl (o_mv rfl) ?_
  refine a_op rfl (o_len rfl rfl (by first | exact List.length_map .. | rfl) tl27) ?_
  refine a_op rfl (o_mv rfl) ?_
  refine a_op rfl (o_len rfl rfl (by first | exact List.length_map .. | rfl) tl27) ?_
  refine a_if rfl (o_ne rfl rfl) (fun h1 => ?_) (fun h2 => ?_)
  · omega
  refine a_nil ?_
  refine tq_n ?_
  refine w_false rfl ?_
  refine awp_skip ?_
  refine tq_n ?_
  refine awp_seq ?_
  refine awp_seq ?_
  refine w_reg (l := r79_3.toList) rfl r79_3_ok ?_
  refine a_op rfl (o_as rfl) ?_
  refine a_nil ?_
  refine tq_n ?_
  refine awp_block ?_
  refine w_loop (fun i : Nat => i ≤ l.length) (fun i => [(0, .slb 7 l.length ((l ++ mks mkRange 12).map rangeAV)), (1, .sl 7 b (l.map rangeAV)), (5, .raw (.int .i64 (i : Int)))]) (fun _ => []) (fun i => l.length - i) (0) (by omega) ⟨(by first | exact sub_int rfl (by omega) | rfl), (by first | exact sub_int rfl (by omega) | rfl), (by first | exact sub_int rfl (by omega) | rfl), trivial⟩ rfl ?_
  intro i hp1
  unfold b79_0
  refine awp_seq ?_
  refine awp_seq ?_
  refine w_reg (l := r79_4.toList) rfl r79_4_ok ?_
  refine a_op rfl (o_mv rfl) ?_
  refine a_op rfl (o_mv rfl) ?_
  refine a_op rfl (o_len rfl rfl (by first | exact List.length_map .. | rfl) tl27) ?_
  refine a_if rfl (o_lt rfl rfl) (fun h3 => ?_) (fun h4 => ?_)
  · refine a_nil ?_
    refine tq_n ?_
    refine w_true rfl ?_
    refine awp_skip ?_
    refine tq_n ?_
    refine awp_seq ?_
    refine awp_block ?_
    refine awp_seq ?_
    have hI : i < l.length := by omega
    have hA := at_lo rangeAV (m := mks mkRange 12) hI
    refine awp_draw ⟨[[], [], [0, 1], [0, 1, 2], [], [], [4, 5], [4, 5, 6], [0, 1, 2, 3, 4, 5, 6, 7]], [[0], [5], [17, 18], [19], [1], [5], [21, 22], [23], [20, 24]], [[], [], [], [], [], [], [], [], []], [none, none, none, none, none, none, none, none, none]⟩ mo r79_6_ok (by decide +kernel) (l := r79_6.toList) rfl ?_
    refine d_op rfl rfl rfl (fun _ => o_mv rfl) ?_
    refine d_op rfl rfl rfl (fun _ => o_mv rfl) ?_
    refine d_op rfl rfl rfl (fun _ => o_ixb te27 tn121 rfl rfl nofun rfl hA hI) ?_
    refine d_op rfl rfl rfl (fun _ => (by first | exact o_ldg tg121 tn121 rfl rfl | exact o_ldpg tg121 tn121 rfl rfl rfl rfl)) ?_
    refine d_op rfl rfl rfl (fun _ => o_mv rfl) ?_
    refine d_op rfl rfl rfl (fun _ => o_mv rfl) ?_
    refine d_op rfl rfl rfl (fun _ => o_ix te27 tn121 rfl rfl rfl (ixm _ _ _ hI)) ?_
    refine d_op rfl rfl rfl (fun _ => (by first | exact o_ldg tg121 tn121 rfl rfl | exact o_ldpg tg121 tn121 rfl rfl rfl rfl)) ?_
    refine d_op rfl rfl rfl (fun _ => o_sne eq121 rfl rfl rfl (scs121 ..)) ?_
    refine d_nil ?_
    refine tq_n ?_
    refine w_false rfl ?_
    refine awp_skip ?_
    refine bq_n ?_
    refine tq_n ?_
    refine w_reg (l := r79_5.toList) rfl r79_5_ok ?_
    refine a_op rfl (o_mv rfl) ?_
    refine a_op rfl (o_add rfl rfl (by simp only [klo, khi]; omega)) ?_
    refine a_op rfl (o_as rfl) ?_
    refine a_nil ?_
    refine tq_n ?_
    exact ⟨i + 1, ⟨by omega, by omega⟩, ⟨(by first | exact sub_int rfl (by omega) | rfl), (by first | exact sub_int rfl (by omega) | rfl), (by first | exact sub_int rfl (by omega) | rfl), trivial⟩, rfl⟩
  refine a_nil ?_
  refine tq_n ?_
  refine w_false rfl ?_
  refine awp_exit ?_
  refine tq_x ?_
  refine tq_x ?_
  refine bq_hit ?_
  refine tq_n ?_
  refine awp_seq ?_
  refine w_reg (l := r79_8.toList) rfl r79_8_ok ?_
  refine a_op rfl (o_as rfl) ?_
  refine a_nil ?_
  refine tq_n ?_
  refine awp_ret ?_
  refine r_one rfl ⟨rfl, trivial⟩ ?_
  exact rs_pur (by simp) rfl
noncomputable def r44_0 : Array Oper := opsAt Tryd.f44 [0]
theorem r44_0_ok : dstOk 25 r44_0.toList = true ∧ r44_0.toList.all (fun o => noDefer o.op) = true := by decide +kernel
noncomputable def r44_1 : Array Oper := opsAt Tryd.f44 [1, 0]
theorem r44_1_ok : dstOk 25 r44_1.toList = true ∧ r44_1.toList.all (fun o => noDefer o.op) = true := by decide +kernel
noncomputable def r44_2 : Array Oper := opsAt Tryd.f44 [1, 1, 0]
theorem r44_2_ok : dstOk 25 r44_2.toList = true ∧ r44_2.toList.all (fun o => noDefer o.op) = true := by decide +kernel
noncomputable def r44_3 : Array Oper := opsAt Tryd.f44 [1, 1, 1, 0, 0]
theorem r44_3_ok : dstOk 25 r44_3.toList = true ∧ r44_3.toList.all (fun o => noDefer o.op) = true := by decide +kernel
noncomputable def r44_4 : Array Oper := opsAt Tryd.f44 [1, 1, 1, 0, 1, 0, 0, 0, 0]
theorem r44_4_ok : dstOk 25 r44_4.toList = true ∧ r44_4.toList.all (fun o => noDefer o.op) = true := by decide +kernel
noncomputable def r44_6 : Array Oper := opsAt Tryd.f44 [1, 1, 1, 0, 1, 0, 0, 1, 0, 0]
theorem r44_6_ok : dstOk 25 r44_6.toList = true ∧ r44_6.toList.all (fun o => noDefer o.op) = true := by decide +kernel
noncomputable def r44_5 : Array Oper := opsAt Tryd.f44 [1, 1, 1, 0, 1, 0, 0, 1, 1]
theorem r44_5_ok : dstOk 25 r44_5.toList = true ∧ r44_5.toList.all (fun o => noDefer o.op) = true := by decide +kernel
noncomputable def b44_0 : Code := (.seq (.seq (.region 4 r44_4 false) (.cond (.tmp 13) .skip (.exit 0))) (.seq (.block 1 (.region 6 r44_6 false)) (.region 5 r44_5 false)))
noncomputable def r44_7 : Array Oper := opsAt Tryd.f44 [1, 1, 1, 1, 0]
theorem r44_7_ok : dstOk 25 r44_7.toList = true ∧ r44_7.toList.all (fun o => noDefer o.op) = true := by decide +kernel
noncomputable def c44 : Code := (.seq (.region 0 r44_0 false) (.seq (.region 1 r44_1 false) (.seq (.region 2 r44_2 false) (.seq (.seq (.region 3 r44_3 false) (.block 0 (.loop b44_0))) (.seq (.region 7 r44_7 false) .ret)))))
theorem body44 : Tryd.f44.body = some c44 := by kernel_rfl
theorem lentPoints_ok (b : Bool) (l : List PtR) (hl : l.length * 80 ≤ 140737488351232) : PureCall Tryd.prog GL 44 [.sl 8 b (l.map ptAV)] (.slb 8 l.length ((l ++ mks mkPt 12).map ptAV)) := by
  refine pure_of_body Tryd.func44 body44 (Nat.le_of_ble_eq_true rfl) (by simp) (.slb (pu_ptr _)) ?_
  refine w_keep [(0, .sl 8 b (l.map ptAV))] ⟨rfl, trivial⟩ ?_
  unfold c44
  refine awp_seq ?_
  refine w_reg (l := r44_0.toList) rfl r44_0_ok ?_
  refine a_op rfl (o_as rfl) ?_
  refine a_nil ?_
  refine tq_n ?_
  refine awp_seq ?_
  refine w_reg (l := r44_1.toList) rfl r44_1_ok ?_
  refine a_op rfl (o_mv rfl) ?_
  refine a_op rfl (o_len rfl rfl (by first | exact List.length_map .. | rfl) tl28) ?_
  refine a_op rfl (o_add rfl rfl (by simp only [klo, khi]; omega)) ?_
  refine a_op rfl (o_ms tE28 rfl rfl (by decide) (by omega) (by omega) (by omega) rfl rfl) ?_
  refine a_op rfl (o_as rfl) ?_
  refine a_nil ?_
  refine tq_n ?_
  refine awp_seq ?_
  refine w_reg (l := r44_2.toList) rfl r44_2_ok ?_
  refine a_op rfl (o_mv rfl) ?_
  refine a_op rfl (o_mv rfl) ?_
  refine a_op rfl (o_ap tE28 rfl rfl rfl rfl rfl (good_ptr _ _) (by simp; omega) (by simp; omega) rfl rfl rfl rfl) ?_
  refine a_op rfl (o_as rfl) ?_
  refine a_nil ?_
  refine tq_n ?_
  refine awp_seq ?_
  refine awp_seq ?_
  refine w_reg (l := r44_3.toList) rfl r44_3_ok ?_
  refine a_op rfl (o_as rfl) ?_
  refine a_nil ?_
  refine tq_n ?_
  refine awp_block ?_
  refine w_loop (fun i : Nat => i ≤ 12) (fun i => [(0, .sl 8 b (l.map ptAV)), (3, .slo 0 (1 + i) 0 (l.length + i)), (4, .raw (.int .i64 (i : Int)))]) (fun i => [.vec 8 (1 + i) ((l ++ mks mkPt i).map ptAV)]) (fun i => 12 - i) (0) (by omega) ⟨(by first | exact sub_int rfl (by omega) | rfl | exact sub_eq rfl (by simp)), (by first | exact sub_int rfl (by omega) | rfl | exact sub_eq rfl (by simp)), (by first | exact sub_int rfl (by omega) | rfl | exact sub_eq rfl (by simp)), trivial⟩ (by simp [mks]) ?_
  intro i hp1
  unfold b44_0
  refine awp_seq ?_
  refine awp_seq ?_
  refine w_reg (l := r44_4.toList) rfl r44_4_ok ?_
  refine a_op rfl (o_mv rfl) ?_
  refine a_if rfl (o_lt rfl rfl) (fun h1 => ?_) (fun h2 => ?_)
  · refine a_nil ?_
    refine tq_n ?_
    refine w_true rfl ?_
    refine awp_skip ?_
    refine tq_n ?_
    refine awp_seq ?_
    refine awp_block ?_
    refine w_reg (l := r44_6.toList) rfl r44_6_ok ?_
    refine a_op rfl (o_mv rfl) ?_
    refine a_op rfl (o_mv rfl) ?_
    refine a_pure rfl rfl rfl cb73 (mkPt_ok _ (by omega) (by omega)) ?_
    refine a_op rfl (o_bs tE28 (by decide) rfl rfl rfl) ?_
    refine a_op rfl (o_ap tE28 rfl rfl (by simp [mks]) rfl rfl rfl (by simp [mks]; omega) (by simp [mks]; omega) rfl rfl rfl rfl) ?_
    refine a_op rfl (o_as rfl) ?_
    refine a_nil ?_
    refine bq_n ?_
    refine tq_n ?_
    refine w_reg (l := r44_5.toList) rfl r44_5_ok ?_
    refine a_op rfl (o_mv rfl) ?_
    refine a_op rfl (o_add rfl rfl (by simp only [klo, khi]; omega)) ?_
    refine a_op rfl (o_as rfl) ?_
    refine a_nil ?_
    refine tq_n ?_
    exact ⟨i + 1, ⟨by omega, by omega⟩, ⟨(by first | exact sub_int rfl (by omega) | rfl | exact sub_eq rfl (by simp)), (by first | exact sub_int rfl (by omega) | rfl | exact sub_eq rfl (by simp)), (by first | exact sub_int rfl (by omega) | rfl | exact sub_eq rfl (by simp)), trivial⟩, by rw [mks_succ, ← List.append_assoc, List.map_append (l₂ := [_])]; rfl⟩
  refine a_nil ?_
  refine tq_n ?_
  refine w_false rfl ?_
  refine awp_exit ?_
  refine tq_x ?_
  refine tq_x ?_
  refine bq_hit ?_
  refine tq_n ?_
  refine awp_seq ?_
  refine w_reg (l := r44_7.toList) rfl r44_7_ok ?_
  refine a_op rfl (o_mv rfl) ?_
  refine a_op rfl (o_mv rfl) ?_
  refine a_op rfl (o_len rfl rfl (by first | exact List.length_map .. | rfl) tl28) ?_
  refine a_op rfl (o_slh te28 tn39 rfl rfl rfl rfl (by simp)) ?_
  refine a_op rfl (o_as rfl) ?_
  refine a_nil ?_
  refine tq_n ?_
  refine awp_ret ?_
  refine r_one rfl ⟨rfl, trivial⟩ ?_
  have hi : i = 12 := by omega
  subst hi
  exact rs_slob id rfl (by simp) (pu_ptr _) rfl
noncomputable def r53_0 : Array Oper := opsAt Tryd.f53 [0]
theorem r53_0_ok : dstOk 58 r53_0.toList = true ∧ r53_0.toList.all (fun o => noDefer o.op) = true := by decide +kernel
noncomputable def r53_1 : Array Oper := opsAt Tryd.f53 [1, 0, 0]
theorem r53_1_ok : dstOk 58 r53_1.toList = true ∧ r53_1.toList.all (fun o => noDefer o.op) = true := by decide +kernel
noncomputable def r53_2 : Array Oper := opsAt Tryd.f53 [1, 0, 1, 0, 0]
theorem r53_2_ok : dstOk 58 r53_2.toList = true ∧ r53_2.toList.all (fun o => noDefer o.op) = true := by decide +kernel
noncomputable def r53_3 : Array Oper := opsAt Tryd.f53 [1, 1, 0]
theorem r53_3_ok : dstOk 58 r53_3.toList = true ∧ r53_3.toList.all (fun o => noDefer o.op) = true := by decide +kernel
noncomputable def r53_4 : Array Oper := opsAt Tryd.f53 [1, 1, 1, 0, 0]
theorem r53_4_ok : dstOk 58 r53_4.toList = true ∧ r53_4.toList.all (fun o => noDefer o.op) = true := by decide +kernel
noncomputable def r53_5 : Array Oper := opsAt Tryd.f53 [1, 1, 1, 0, 1, 0, 0, 0, 0]
theorem r53_5_ok : dstOk 58 r53_5.toList = true ∧ r53_5.toList.all (fun o => noDefer o.op) = true := by decide +kernel
noncomputable def r53_7 : Array Oper := opsAt Tryd.f53 [1, 1, 1, 0, 1, 0, 0, 1, 0, 0, 0]
theorem r53_7_ok : dstOk 58 r53_7.toList = true ∧ r53_7.toList.all (fun o => noDefer o.op) = true := by decide +kernel
noncomputable def r53_8 : Array Oper := opsAt Tryd.f53 [1, 1, 1, 0, 1, 0, 0, 1, 0, 0, 1, 0, 0]
theorem r53_8_ok : dstOk 58 r53_8.toList = true ∧ r53_8.toList.all (fun o => noDefer o.op) = true := by decide +kernel
noncomputable def r53_6 : Array Oper := opsAt Tryd.f53 [1, 1, 1, 0, 1, 0, 0, 1, 1]
theorem r53_6_ok : dstOk 58 r53_6.toList = true ∧ r53_6.toList.all (fun o => noDefer o.op) = true := by decide +kernel
noncomputable def b53_0 : Code := (.seq (.seq (.region 5 r53_5 false) (.cond (.tmp 20) .skip (.exit 0))) (.seq (.block 1 (.seq (.region 7 r53_7 true) (.cond (.tmp 57) (.seq (.region 8 r53_8 false) .ret) .skip))) (.region 6 r53_6 false)))
noncomputable def r53_9 : Array Oper := opsAt Tryd.f53 [1, 1, 1, 1, 0]
theorem r53_9_ok : dstOk 58 r53_9.toList = true ∧ r53_9.toList.all (fun o => noDefer o.op) = true := by decide +kernel
noncomputable def c53 : Code := (.seq (.region 0 r53_0 false) (.seq (.seq (.region 1 r53_1 false) (.cond (.tmp 11) (.seq (.region 2 r53_2 false) .ret) .skip)) (.seq (.region 3 r53_3 false) (.seq (.seq (.region 4 r53_4 false) (.block 0 (.loop b53_0))) (.seq (.region 9 r53_9 false) .ret)))))
theorem body53 : Tryd.f53.body = some c53 := by kernel_rfl
theorem keptPoints_ok (b : Bool) (l : List PtR) (hl : l.length * 80 ≤ 140737488351232) : PureCall Tryd.prog GL 53 [.slb 8 l.length ((l ++ mks mkPt 12).map ptAV), .sl 8 b (l.map ptAV)] (.raw (.bool true)) := by
  refine pure_of_body Tryd.func53 body53 (Nat.le_of_ble_eq_true rfl) (pur2 (.slb (pu_ptr _)) (.sl (pu_ptr _))) (by simp) ?_
  refine w_keep [(0, .slb 8 l.length ((l ++ mks mkPt 12).map ptAV)), (1, .sl 8 b (l.map ptAV))] ⟨rfl, rfl, trivial⟩ ?_
  unfold c53
  have hlen : (l ++ mks mkPt 12).length = l.length + 12 := by simp [mks]
  refine awp_seq ?_
  refine w_reg (l := r53_0.toList) rfl r53_0_ok ?_
  refine a_op rfl (o_as rfl) ?_
  refine a_nil ?_
  refine tq_n ?_
  refine awp_seq ?_
  refine awp_seq ?_
  refine w_reg (l := r53_1.toList) rfl r53_1_ok ?_
  refine a_op rfl (o_mv rfl) ?_
  refine a_op rfl (o_len rfl rfl (by first | exact List.length_map .. | rfl) tl28) ?_
  refine a_op rfl (o_mv rfl) ?_
  refine a_op rfl (o_len rfl rfl (by first | exact List.length_map .. | rfl) tl28) ?_
  refine a_if rfl (o_ne rfl rfl) (fun h1 => ?_) (fun h2 => ?_)
  · omega
  refine a_nil ?_
  refine tq_n ?_
  refine w_false rfl ?_
  refine awp_skip ?_
  refine tq_n ?_
  refine awp_seq ?_
  refine w_reg (l := r53_3.toList) rfl r53_3_ok ?_
  refine a_op rfl (o_mv rfl) ?_
  refine a_op rfl (o_mv rfl) ?_
  refine a_op rfl (o_len rfl rfl (by first | exact List.length_map .. | rfl) tl28) ?_
  refine a_op rfl (o_add rfl rfl (by simp only [klo, khi]; omega)) ?_
  refine a_op rfl (o_slb (m := l.length + 12) te28 tn39 rfl rfl (by omega) (by simp [mks])) ?_
  refine a_op rfl (o_as rfl) ?_
  refine a_nil ?_
  refine tq_n ?_
  refine awp_seq ?_
  refine awp_seq ?_
  refine w_reg (l := r53_4.toList) rfl r53_4_ok ?_
  refine a_op rfl (o_as rfl) ?_
  refine a_nil ?_
  refine tq_n ?_
  refine awp_block ?_
  refine w_loop (fun i : Nat => i ≤ l.length + 12) (fun i => [(0, .slb 8 l.length ((l ++ mks mkPt 12).map ptAV)), (1, .sl 8 b (l.map ptAV)), (5, .sl 8 false ((l ++ mks mkPt 12).map ptAV)), (6, .raw (.int .i64 (i : Int)))]) (fun _ => []) (fun i => l.length + 12 - i) (0) (by omega) ⟨(by first | exact sub_int rfl (by omega) | rfl | exact sub_eq rfl (by rw [List.take_of_length_le (by simp [mks])])), (by first | exact sub_int rfl (by omega) | rfl | exact sub_eq rfl (by rw [List.take_of_length_le (by simp [mks])])), (by first | exact sub_int rfl (by omega) | rfl | exact sub_eq rfl (by rw [List.take_of_length_le (by simp [mks])])), (by first | exact sub_int rfl (by omega) | rfl | exact sub_eq rfl (by rw [List.take_of_length_le (by simp [mks])])), trivial⟩ rfl ?_
  intro i hp1
  unfold b53_0
  refine awp_seq ?_
  refine awp_seq ?_
  refine w_reg (l := r53_5.toList) rfl r53_5_ok ?_
  refine a_op rfl (o_mv rfl) ?_
  refine a_op rfl (o_mv rfl) ?_
  refine a_op rfl (o_len rfl rfl (by first | exact List.length_map .. | rfl) tl28) ?_
  refine a_if rfl (o_lt rfl rfl) (fun h3 => ?_) (fun h4 => ?_)
  · refine a_nil ?_
    refine tq_n ?_
    refine w_true rfl ?_
    refine awp_skip ?_
    refine tq_n ?_
    refine awp_seq ?_
    refine awp_block ?_
    refine awp_seq ?_
    refine awp_draw ⟨[[], [], [1], [0, 1, 2], [0, 1, 2, 3], [0, 1, 2, 3, 4], [0, 1, 2, 3, 4], [0, 1, 2, 3, 4, 5, 6], [0, 1, 2, 3, 4, 5, 6, 7], [0, 1, 2, 3, 4], [0, 1, 2, 3, 4], [0, 1, 2, 3, 4, 9, 10], [0, 1, 2, 3, 4, 9, 10, 11], [0, 1, 2, 3, 4, 5, 6, 7, 8, 9, 10, 11, 12], [0, 1, 2, 3, 4, 5, 6, 7, 8, 9, 10, 11, 12, 13], [0, 1, 2, 3, 4, 5, 6, 7, 8, 9, 10, 11, 12, 13, 14], [0, 1, 2, 3, 4, 5, 6, 7, 8, 9, 10, 11, 12, 13, 14, 15], [0, 1, 2, 3, 4, 5, 6, 7, 8, 9, 10, 11, 12, 13, 14, 15, 16], [0, 1, 2, 3, 4, 5, 6, 7, 8, 9, 10, 11, 12, 13, 14, 15, 16], [0, 1, 2, 3, 4, 5, 6, 7, 8, 9, 10, 11, 12, 13, 14, 15, 16, 18], [0, 1, 2, 3, 4, 5, 6, 7, 8, 9, 10, 11, 12, 13, 14, 15, 16, 17, 18, 19], [0, 1, 2, 3, 4, 5, 6, 7, 8, 9, 10, 11, 12, 13, 14, 15, 16, 17, 18, 19, 20], [0, 1, 2, 3, 4, 5, 6, 7, 8, 9, 10, 11, 12, 13, 14, 15, 16, 17, 18, 19, 20, 21], [0, 1, 2, 3, 4, 5, 6, 7, 8, 9, 10, 11, 12, 13, 14, 15, 16, 17, 18, 19, 20, 21], [0, 1, 2, 3, 4, 5, 6, 7, 8, 9, 10, 11, 12, 13, 14, 15, 16, 17, 18, 19, 20, 21, 22, 23], [0, 1, 2, 3, 4, 5, 6, 7, 8, 9, 10, 11, 12, 13, 14, 15, 16, 17, 18, 19, 20, 21, 22, 23, 24], [0, 1, 2, 3, 4, 5, 6, 7, 8, 9, 10, 11, 12, 13, 14, 15, 16, 17, 18, 19, 20, 21], [0, 1, 2, 3, 4, 5, 6, 7, 8, 9, 10, 11, 12, 13, 14, 15, 16, 17, 18, 19, 20, 21], [0, 1, 2, 3, 4, 5, 6, 7, 8, 9, 10, 11, 12, 13, 14, 15, 16, 17, 18, 19, 20, 21, 27], [0, 1, 2, 3, 4, 5, 6, 7, 8, 9, 10, 11, 12, 13, 14, 15, 16, 17, 18, 19, 20, 21, 26, 27, 28], [0, 1, 2, 3, 4, 5, 6, 7, 8, 9, 10, 11, 12, 13, 14, 15, 16, 17, 18, 19, 20, 21, 26, 27, 28, 29], [0, 1, 2, 3, 4, 5, 6, 7, 8, 9, 10, 11, 12, 13, 14, 15, 16, 17, 18, 19, 20, 21, 22, 23, 24, 25, 26, 27, 28, 29, 30], [0, 1, 2, 3, 4, 5, 6, 7, 8, 9, 10, 11, 12, 13, 14, 15, 16, 17, 18, 19, 20, 21, 22, 23, 24, 25, 26, 27, 28, 29, 30, 31], [0, 1, 2, 3, 4, 5, 6, 7, 8, 9, 10, 11, 12, 13, 14, 15, 16, 17, 18, 19, 20, 21, 22, 23, 24, 25, 26, 27, 28, 29, 30, 31, 32], [0, 1, 2, 3, 4, 5, 6, 7, 8, 9, 10, 11, 12, 13, 14, 15, 16, 17, 18, 19, 20, 21, 22, 23, 24, 25, 26, 27, 28, 29, 30, 31, 32, 33]], [[6], [1], [24], [23, 25], [26], [5, 27], [6, 27], [27, 28, 29], [27, 30], [1, 27], [6, 27], [27, 32, 33], [27, 34], [27, 31, 35], [27, 36], [27, 37], [38], [6, 39], [1, 39], [39, 41], [39, 40, 42], [39, 43], [5, 44], [6, 44], [44, 45, 46], [44, 47], [6, 44], [1, 44], [44, 50], [44, 49, 51], [44, 52], [44, 48, 53], [44, 54], [39, 44, 55], [39, 56]], [[], [], [], [], [], [], [], [], [], [], [], [], [], [], [], [], [], [], [], [], [], [], [], [], [], [], [], [], [], [], [], [], [], [], []], [none, none, none, none, none, none, none, none, none, none, none, none, none, none, none, none, none, none, none, none, none, none, none, none, none, none, none, none, none, none, none, none, none, none, none]⟩ mo r53_7_ok (by decide +kernel) (l := r53_7.toList) rfl ?_
    refine d_op rfl rfl rfl (fun _ => o_mv rfl) ?_
    refine d_op rfl rfl rfl (fun _ => o_mv rfl) ?_
    refine d_op rfl rfl rfl (fun _ => o_len rfl rfl (by first | exact List.length_map .. | rfl) tl28) ?_
    refine d_if rfl rfl rfl (fun _ => o_lt rfl rfl) (fun h5 => ?_) (fun h6 => ?_)
    · have hI : i < l.length := by omega
      have hA := at_lo ptAV (m := mks mkPt 12) hI
      refine d_op rfl rfl rfl (fun _ => o_mv rfl) ?_
      refine d_op rfl rfl rfl (fun _ => o_mv rfl) ?_
      refine d_op rfl rfl rfl (fun _ => o_mv rfl) ?_
      refine d_op rfl rfl rfl (fun _ => o_ix te28 tn39 rfl rfl rfl hA) ?_
      refine d_op rfl rfl rfl (fun _ => (by first | exact o_ldg tg39 tn39 rfl rfl | exact o_ldpg tg39 tn39 rfl rfl rfl rfl)) ?_
      refine d_op rfl rfl rfl (fun _ => o_mv rfl) ?_
      refine d_op rfl rfl rfl (fun _ => o_mv rfl) ?_
      refine d_op rfl rfl rfl (fun _ => o_ix te28 tn39 rfl rfl rfl (ixm _ _ _ hI)) ?_
      refine d_op rfl rfl rfl (fun _ => (by first | exact o_ldg tg39 tn39 rfl rfl | exact o_ldpg tg39 tn39 rfl rfl rfl rfl)) ?_
      refine d_op rfl rfl rfl (fun _ => o_seq eq39 rfl rfl rfl (scs39 ..)) ?_
      refine d_op rfl rfl rfl (fun _ => o_ntt rfl) ?_
      refine d_op rfl rfl rfl (fun _ => o_pkt rfl rfl) ?_
      refine d_op rfl rfl rfl (fun _ => o_mv rfl) ?_
      refine d_op rfl rfl rfl (fun _ => o_mv rfl) ?_
      refine d_op rfl rfl rfl (fun _ => o_mv rfl) ?_
      refine d_op rfl rfl rfl (fun _ => o_len rfl rfl (by first | exact List.length_map .. | rfl) tl28) ?_
      refine d_if rfl rfl rfl (fun _ => o_ge rfl rfl) (fun h7 => ?_) (fun h8 => ?_)
      · omega
      refine d_op rfl rfl rfl (fun _ => o_mv rfl) ?_
      refine d_off rfl rfl ?_
      refine d_off rfl rfl ?_
      refine d_off rfl rfl ?_
      refine d_off rfl rfl ?_
      refine d_off rfl rfl ?_
      refine d_off rfl rfl ?_
      refine d_off rfl rfl ?_
      refine d_off rfl rfl ?_
      refine d_off rfl rfl ?_
      refine d_off rfl rfl ?_
      refine d_off rfl rfl ?_
      refine d_op rfl rfl rfl (fun _ => o_pkf rfl rfl) ?_
      refine d_op rfl rfl rfl (fun _ => o_pkf rfl rfl) ?_
      refine d_nil ?_
      refine tq_n ?_
      refine w_false rfl ?_
      refine awp_skip ?_
      refine bq_n ?_
      refine tq_n ?_
      refine w_reg (l := r53_6.toList) rfl r53_6_ok ?_
      refine a_op rfl (o_mv rfl) ?_
      refine a_op rfl (o_add rfl rfl (by simp only [klo, khi]; omega)) ?_
      refine a_op rfl (o_as rfl) ?_
      refine a_nil ?_
      refine tq_n ?_
      exact ⟨i + 1, ⟨by omega, by omega⟩, ⟨(by first | exact sub_int rfl (by omega) | rfl | exact sub_eq rfl (by rw [List.take_of_length_le (by simp [mks])])), (by first | exact sub_int rfl (by omega) | rfl | exact sub_eq rfl (by rw [List.take_of_length_le (by simp [mks])])), (by first | exact sub_int rfl (by omega) | rfl | exact sub_eq rfl (by rw [List.take_of_length_le (by simp [mks])])), (by first | exact sub_int rfl (by omega) | rfl | exact sub_eq rfl (by rw [List.take_of_length_le (by simp [mks])])), trivial⟩, rfl⟩
    refine d_op rfl rfl rfl (fun _ => o_mv rfl) ?_
    refine d_off rfl rfl ?_
    refine d_off rfl rfl ?_
    refine d_off rfl rfl ?_
    refine d_off rfl rfl ?_
    refine d_off rfl rfl ?_
    refine d_off rfl rfl ?_
    refine d_off rfl rfl ?_
    refine d_off rfl rfl ?_
    refine d_off rfl rfl ?_
    refine d_off rfl rfl ?_
    refine d_op rfl rfl rfl (fun _ => o_pkf rfl rfl) ?_
    refine d_op rfl rfl rfl (fun _ => o_mv rfl) ?_
    refine d_op rfl rfl rfl (fun _ => o_mv rfl) ?_
    refine d_op rfl rfl rfl (fun _ => o_mv rfl) ?_
    refine d_op rfl rfl rfl (fun _ => o_len rfl rfl (by first | exact List.length_map .. | rfl) tl28) ?_
    refine d_if rfl rfl rfl (fun _ => o_ge rfl rfl) (fun h9 => ?_) (fun h10 => ?_)
    · have hB := at_hi ptAV mkPt (l := l) (i := i) (n := 12) (by omega) (by omega)
      have hk0 : 0 ≤ (i : Int) - (l.length : Int) := by omega
      have hk1 : (i : Int) - (l.length : Int) < 12 := by omega
      refine d_op rfl rfl rfl (fun _ => o_mv rfl) ?_
      refine d_op rfl rfl rfl (fun _ => o_mv rfl) ?_
      refine d_op rfl rfl rfl (fun _ => o_mv rfl) ?_
      refine d_op rfl rfl rfl (fun _ => o_ix te28 tn39 rfl rfl rfl hB) ?_
      refine d_op rfl rfl rfl (fun _ => (by first | exact o_ldg tg39 tn39 rfl rfl | exact o_ldpg tg39 tn39 rfl rfl rfl rfl)) ?_
      refine d_op rfl rfl rfl (fun _ => o_mv rfl) ?_
      refine d_op rfl rfl rfl (fun _ => o_mv rfl) ?_
      refine d_op rfl rfl rfl (fun _ => o_len rfl rfl (by first | exact List.length_map .. | rfl) tl28) ?_
      refine d_op rfl rfl rfl (fun _ => o_sub rfl rfl (by simp only [klo, khi]; omega)) ?_
      refine d_pure rfl rfl rfl rfl cb73 (mkPt_ok _ hk0 hk1) ?_
      refine d_op rfl rfl rfl (fun _ => o_seq eq39 rfl rfl rfl (scs39 ..)) ?_
      refine d_op rfl rfl rfl (fun _ => o_ntt rfl) ?_
      refine d_op rfl rfl rfl (fun _ => o_pkt rfl rfl) ?_
      refine d_op rfl rfl rfl (fun _ => o_pkf rfl rfl) ?_
      refine d_nil ?_
      refine tq_n ?_
      refine w_false rfl ?_
      refine awp_skip ?_
      refine bq_n ?_
      refine tq_n ?_
      refine w_reg (l := r53_6.toList) rfl r53_6_ok ?_
      refine a_op rfl (o_mv rfl) ?_
      refine a_op rfl (o_add rfl rfl (by simp only [klo, khi]; omega)) ?_
      refine a_op rfl (o_as rfl) ?_
      refine a_nil ?_
      refine tq_n ?_
      exact ⟨i + 1, ⟨by omega, by omega⟩, ⟨(by first | exact sub_int rfl (by omega) | rfl | exact sub_eq rfl (by rw [List.take_of_length_le (by simp [mks])])), (by first | exact sub_int rfl (by omega) | rfl | exact sub_eq rfl (by rw [List.take_of_length_le (by simp [mks])])), (by first | exact sub_int rfl (by omega) | rfl | exact sub_eq rfl (by rw [List.take_of_length_le (by simp [mks])])), (by first | exact sub_int rfl (by omega) | rfl | exact sub_eq rfl (by rw [List.take_of_length_le (by simp [mks])])), trivial⟩, rfl⟩
    omega
  refine a_nil ?_
  refine tq_n ?_
  refine w_false rfl ?_
  refine awp_exit ?_
  refine tq_x ?_
  refine tq_x ?_
  refine bq_hit ?_
  refine tq_n ?_
  refine awp_seq ?_
  refine w_reg (l := r53_9.toList) rfl r53_9_ok ?_
  refine a_op rfl (o_as rfl) ?_
  refine a_nil ?_
  refine tq_n ?_
  refine awp_ret ?_
  refine r_one rfl ⟨rfl, trivial⟩ ?_
  exact rs_pur (by simp) rfl
noncomputable def r80_0 : Array Oper := opsAt Tryd.f80 [0]
theorem r80_0_ok : dstOk 26 r80_0.toList = true ∧ r80_0.toList.all (fun o => noDefer o.op) = true := by decide +kernel
noncomputable def r80_1 : Array Oper := opsAt Tryd.f80 [1, 0, 0]
theorem r80_1_ok : dstOk 26 r80_1.toList = true ∧ r80_1.toList.all (fun o => noDefer o.op) = true := by decide +kernel
noncomputable def r80_2 : Array Oper := opsAt Tryd.f80 [1, 0, 1, 0, 0]
theorem r80_2_ok : dstOk 26 r80_2.toList = true ∧ r80_2.toList.all (fun o => noDefer o.op) = true := by decide +kernel
noncomputable def r80_3 : Array Oper := opsAt Tryd.f80 [1, 1, 0, 0]
theorem r80_3_ok : dstOk 26 r80_3.toList = true ∧ r80_3.toList.all (fun o => noDefer o.op) = true := by decide +kernel
noncomputable def r80_4 : Array Oper := opsAt Tryd.f80 [1, 1, 0, 1, 0, 0, 0, 0]
theorem r80_4_ok : dstOk 26 r80_4.toList = true ∧ r80_4.toList.all (fun o => noDefer o.op) = true := by decide +kernel
noncomputable def r80_6 : Array Oper := opsAt Tryd.f80 [1, 1, 0, 1, 0, 0, 1, 0, 0, 0]
theorem r80_6_ok : dstOk 26 r80_6.toList = true ∧ r80_6.toList.all (fun o => noDefer o.op) = true := by decide +kernel
noncomputable def r80_7 : Array Oper := opsAt Tryd.f80 [1, 1, 0, 1, 0, 0, 1, 0, 0, 1, 0, 0]
theorem r80_7_ok : dstOk 26 r80_7.toList = true ∧ r80_7.toList.all (fun o => noDefer o.op) = true := by decide +kernel
noncomputable def r80_5 : Array Oper := opsAt Tryd.f80 [1, 1, 0, 1, 0, 0, 1, 1]
theorem r80_5_ok : dstOk 26 r80_5.toList = true ∧ r80_5.toList.all (fun o => noDefer o.op) = true := by decide +kernel
noncomputable def b80_0 : Code := (.seq (.seq (.region 4 r80_4 false) (.cond (.tmp 14) .skip (.exit 0))) (.seq (.block 1 (.seq (.region 6 r80_6 true) (.cond (.tmp 25) (.seq (.region 7 r80_7 false) .ret) .skip))) (.region 5 r80_5 false)))
noncomputable def r80_8 : Array Oper := opsAt Tryd.f80 [1, 1, 1, 0]
theorem r80_8_ok : dstOk 26 r80_8.toList = true ∧ r80_8.toList.all (fun o => noDefer o.op) = true := by decide +kernel
noncomputable def c80 : Code := (.seq (.region 0 r80_0 false) (.seq (.seq (.region 1 r80_1 false) (.cond (.tmp 10) (.seq (.region 2 r80_2 false) .ret) .skip)) (.seq (.seq (.region 3 r80_3 false) (.block 0 (.loop b80_0))) (.seq (.region 8 r80_8 false) .ret))))
theorem body80 : Tryd.f80.body = some c80 := by kernel_rfl
theorem samePoints_ok (b : Bool) (l : List PtR) (hl : l.length * 80 ≤ 140737488351232) : PureCall Tryd.prog GL 80 [.slb 8 l.length ((l ++ mks mkPt 12).map ptAV), .sl 8 b (l.map ptAV)] (.raw (.bool true)) := by
  refine pure_of_body Tryd.func80 body80 (Nat.le_of_ble_eq_true rfl) (pur2 (.slb (pu_ptr _)) (.sl (pu_ptr _))) (by simp) ?_
  refine w_keep [(0, .slb 8 l.length ((l ++ mks mkPt 12).map ptAV)), (1, .sl 8 b (l.map ptAV))] ⟨rfl, rfl, trivial⟩ ?_
  unfold c80
  refine awp_seq ?_
  refine w_reg (l := r80_0.toList) rfl r80_0_ok ?_
  refine a_op rfl (o_as rfl) ?_
  refine a_nil ?_
  refine tq_n ?_
  refine awp_seq ?_
  refine awp_seq ?_
  refine w_reg (l := r80_1.toList) rfl r80_1_ok ?_
  refine a_op rfl (o_mv rfl) ?_
  refine a_op rfl (o_len rfl rfl (by first | exact List.length_map .. | rfl) tl28) ?_
  refine a_op rfl (o_mv rfl) ?_
  refine a_op rfl (o_len rfl rfl (by first | exact List.length_map .. | rfl) tl28) ?_
  refine a_if rfl (o_ne rfl rfl) (fun h1 => ?_) (fun h2 => ?_)
  · omega
  refine a_nil ?_
  refine tq_n ?_
  refine w_false rfl ?_
  refine awp_skip ?_
  refine tq_n ?_
  refine awp_seq ?_
  refine awp_seq ?_
  refine w_reg (l := r80_3.toList) rfl r80_3_ok ?_
  refine a_op rfl (o_as rfl) ?_
  refine a_nil ?_
  refine tq_n ?_
  refine awp_block ?_
  refine w_loop (fun i : Nat => i ≤ l.length) (fun i => [(0, .slb 8 l.length ((l ++ mks mkPt 12).map ptAV)), (1, .sl 8 b (l.map ptAV)), (5, .raw (.int .i64 (i : Int)))]) (fun _ => []) (fun i => l.length - i) (0) (by omega) ⟨(by first | exact sub_int rfl (by omega) | rfl), (by first | exact sub_int rfl (by omega) | rfl), (by first | exact sub_int rfl (by omega) | rfl), trivial⟩ rfl ?_
  intro i hp1
  unfold b80_0
  refine awp_seq ?_
  refine awp_seq ?_
  refine w_reg (l := r80_4.toList) rfl r80_4_ok ?_
  refine a_op rfl (o_mv rfl) ?_
  refine a_op rfl (o_mv rfl) ?_
  refine a_op rfl (o_len rfl rfl (by first | exact List.length_map .. | rfl) tl28) ?_
  refine a_if rfl (o_lt rfl rfl) (fun h3 => ?_) (fun h4 => ?_)
  · refine a_nil ?_
    refine tq_n ?_
    refine w_true rfl ?_
    refine awp_skip ?_
    refine tq_n ?_
    refine awp_seq ?_
    refine awp_block ?_
    refine awp_seq ?_
    have hI : i < l.length := by omega
    have hA := at_lo ptAV (m := mks mkPt 12) hI
    refine awp_draw ⟨[[], [], [0, 1], [0, 1, 2], [], [], [4, 5], [4, 5, 6], [0, 1, 2, 3, 4, 5, 6, 7]], [[0], [5], [17, 18], [19], [1], [5], [21, 22], [23], [20, 24]], [[], [], [], [], [], [], [], [], []], [none, none, none, none, none, none, none, none, none]⟩ mo r80_6_ok (by decide +kernel) (l := r80_6.toList) rfl ?_
    refine d_op rfl rfl rfl (fun _ => o_mv rfl) ?_
    refine d_op rfl rfl rfl (fun _ => o_mv rfl) ?_
    refine d_op rfl rfl rfl (fun _ => o_ixb te28 tn39 rfl rfl nofun rfl hA hI) ?_
    refine d_op rfl rfl rfl (fun _ => (by first | exact o_ldg tg39 tn39 rfl rfl | exact o_ldpg tg39 tn39 rfl rfl rfl rfl)) ?_
    refine d_op rfl rfl rfl (fun _ => o_mv rfl) ?_
    refine d_op rfl rfl rfl (fun _ => o_mv rfl) ?_
    refine d_op rfl rfl rfl (fun _ => o_ix te28 tn39 rfl rfl rfl (ixm _ _ _ hI)) ?_
    refine d_op rfl rfl rfl (fun _ => (by first | exact o_ldg tg39 tn39 rfl rfl | exact o_ldpg tg39 tn39 rfl rfl rfl rfl)) ?_
    refine d_op rfl rfl rfl (fun _ => o_sne eq39 rfl rfl rfl (scs39 ..)) ?_
    refine d_nil ?_
    refine tq_n ?_
    refine w_false rfl ?_
    refine awp_skip ?_
    refine bq_n ?_
    refine tq_n ?_
    refine w_reg (l := r80_5.toList) rfl r80_5_ok ?_
    refine a_op rfl (o_mv rfl) ?_
    refine a_op rfl (o_add rfl rfl (by simp only [klo, khi]; omega)) ?_
    refine a_op rfl (o_as rfl) ?_
    refine a_nil ?_
    refine tq_n ?_
    exact ⟨i + 1, ⟨by omega, by omega⟩, ⟨(by first | exact sub_int rfl (by omega) | rfl), (by first | exact sub_int rfl (by omega) | rfl), (by first | exact sub_int rfl (by omega) | rfl), trivial⟩, rfl⟩
  refine a_nil ?_
  refine tq_n ?_
  refine w_false rfl ?_
  refine awp_exit ?_
  refine tq_x ?_
  refine tq_x ?_
  refine bq_hit ?_
  refine tq_n ?_
  refine awp_seq ?_
  refine w_reg (l := r80_8.toList) rfl r80_8_ok ?_
  refine a_op rfl (o_as rfl) ?_
  refine a_nil ?_
  refine tq_n ?_
  refine awp_ret ?_
  refine r_one rfl ⟨rfl, trivial⟩ ?_
  exact rs_pur (by simp) rfl
end Go.Ab.D
