/- What functions of this program compute, and the laws of what they compute, under the bounds on lengths that each contract states. -/
import Derived.Test.YtghoaglolhdoeaaDoorD5
set_option linter.unusedSimpArgs false
set_option linter.unusedVariables false
namespace Go.Ab.D
open Go Go.Ab Go.Proofs
structure NoteR where
  point : Int
  kind : Int
  a : Int
  b : Int
def u8r (x : Int) : Prop := 0 ≤ x ∧ x ≤ 255
def NoteR.ok (x : NoteR) : Prop := u8r x.point ∧ u8r x.kind ∧ u8r x.a ∧ u8r x.b
def noteAV (x : NoteR) : AV := .agg [.raw (.int .u8 x.point), .raw (.int .u8 x.kind), .raw (.int .u8 x.a), .raw (.int .u8 x.b)]
@[simp] theorem pur_note (x : NoteR) : Pur (noteAV x) ↔ True := by simp [noteAV]
def ruledF (x : NoteR) : RuleR :=
  if x.kind % 3 = 0 then ⟨1 + x.point % 6, 1, 100 * (1 + x.a % 12) + 1 + x.a / 12, 100 * (1 + x.b % 12) + 1 + x.b / 12, 0⟩
  else if x.kind % 3 = 1 then ⟨1 + x.point % 6, 2, 2 * x.a, 2 * x.a + x.b % 200, 0⟩
  else ⟨1 + x.point % 6, 3, 0, 0, 1 + x.a % 127⟩
theorem ruledF_ok {x : NoteR} (h : x.ok) : (ruledF x).ok := by
  unfold NoteR.ok u8r at h
  unfold ruledF RuleR.ok; split
  · dsimp only; omega
  · split <;> dsimp only <;> omega
theorem rs_rule {H : Heap} {keep : Nat → Prop} {p k f t d : Int} {r : RuleR} (h1 : p = r.pt) (h2 : k = r.kind) (h3 : f = r.frm) (h4 : t = r.to) (h5 : d = r.days) : Rs H keep (.agg [.raw (.int .i64 p), .raw (.int .u8 k), .raw (.int .i64 f), .raw (.int .i64 t), .raw (.int .u8 d)]) (ruleAV r) := by
  subst h1 h2 h3 h4 h5; exact rs_pur (by simp) rfl

noncomputable def r16_0 : Array Oper := opsAt Tryd.f16 [0]
theorem r16_0_ok : dstOk 67 r16_0.toList = true ∧ r16_0.toList.all (fun o => noDefer o.op) = true := by decide +kernel
noncomputable def r16_1 : Array Oper := opsAt Tryd.f16 [1, 0]
theorem r16_1_ok : dstOk 67 r16_1.toList = true ∧ r16_1.toList.all (fun o => noDefer o.op) = true := by decide +kernel
noncomputable def r16_2 : Array Oper := opsAt Tryd.f16 [1, 1, 0, 0]
theorem r16_2_ok : dstOk 67 r16_2.toList = true ∧ r16_2.toList.all (fun o => noDefer o.op) = true := by decide +kernel
noncomputable def r16_3 : Array Oper := opsAt Tryd.f16 [1, 1, 0, 1, 0, 0]
theorem r16_3_ok : dstOk 67 r16_3.toList = true ∧ r16_3.toList.all (fun o => noDefer o.op) = true := by decide +kernel
noncomputable def r16_4 : Array Oper := opsAt Tryd.f16 [1, 1, 0, 1, 0, 1, 0]
theorem r16_4_ok : dstOk 67 r16_4.toList = true ∧ r16_4.toList.all (fun o => noDefer o.op) = true := by decide +kernel
noncomputable def r16_5 : Array Oper := opsAt Tryd.f16 [1, 1, 0, 1, 0, 1, 1, 0]
theorem r16_5_ok : dstOk 67 r16_5.toList = true ∧ r16_5.toList.all (fun o => noDefer o.op) = true := by decide +kernel
noncomputable def r16_6 : Array Oper := opsAt Tryd.f16 [1, 1, 0, 1, 0, 1, 1, 1, 0, 0]
theorem r16_6_ok : dstOk 67 r16_6.toList = true ∧ r16_6.toList.all (fun o => noDefer o.op) = true := by decide +kernel
noncomputable def r16_7 : Array Oper := opsAt Tryd.f16 [1, 1, 0, 1, 0, 1, 1, 1, 0, 1]
theorem r16_7_ok : dstOk 67 r16_7.toList = true ∧ r16_7.toList.all (fun o => noDefer o.op) = true := by decide +kernel
noncomputable def r16_8 : Array Oper := opsAt Tryd.f16 [1, 1, 0, 1, 0, 1, 1, 1, 1, 0]
theorem r16_8_ok : dstOk 67 r16_8.toList = true ∧ r16_8.toList.all (fun o => noDefer o.op) = true := by decide +kernel
noncomputable def r16_9 : Array Oper := opsAt Tryd.f16 [1, 1, 0, 1, 0, 1, 1, 1, 1, 1, 0]
theorem r16_9_ok : dstOk 67 r16_9.toList = true ∧ r16_9.toList.all (fun o => noDefer o.op) = true := by decide +kernel
noncomputable def r16_10 : Array Oper := opsAt Tryd.f16 [1, 1, 1, 0]
theorem r16_10_ok : dstOk 67 r16_10.toList = true ∧ r16_10.toList.all (fun o => noDefer o.op) = true := by decide +kernel
noncomputable def c16 : Code := (.seq (.region 0 r16_0 false) (.seq (.region 1 r16_1 false) (.seq (.seq (.region 2 r16_2 false) (.block 0 (.seq (.region 3 r16_3 false) (.cond (.tmp 16) (.region 4 r16_4 true) (.seq (.region 5 r16_5 false) (.cond (.tmp 44) (.seq (.region 6 r16_6 false) (.region 7 r16_7 false)) (.seq (.region 8 r16_8 false) (.cond (.tmp 59) (.region 9 r16_9 false) .skip)))))))) (.seq (.region 10 r16_10 false) .ret))))
theorem body16 : Tryd.f16.body = some c16 := by kernel_rfl
theorem ruled_ok (x : NoteR) (hx : x.ok) : PureCall Tryd.prog GL 16 [noteAV x] (ruleAV (ruledF x)) := by
  refine pure_of_body Tryd.func16 body16 (Nat.le_of_ble_eq_true rfl) (by simp) (by simp) ?_
  refine w_keep [(0, noteAV x)] ⟨rfl, trivial⟩ ?_
  unfold c16
  obtain ⟨⟨hp0, hp1⟩, ⟨hk0, hk1⟩, ⟨ha0, ha1⟩, ⟨hb0, hb1⟩⟩ := hx
  refine awp_seq ?_
  refine w_reg (l := r16_0.toList) rfl r16_0_ok ?_
  refine a_op rfl (o_box (N := 0) rfl (by rfl) rfl rfl) ?_
  refine a_op rfl (o_al (N := 1) tz37 rfl rfl rfl) ?_
  refine a_nil ?_
  refine tq_n ?_
  refine awp_seq ?_
  refine w_reg (l := r16_1.toList) rfl r16_1_ok ?_
  refine a_op rfl ((by first | exact o_fa tf44_0 rfl rfl | exact o_fap tf44_0 rfl rfl)) ?_
  refine a_op rfl ((by first | exact o_ld tg5 rfl rfl | exact o_ldp tg5 rfl rfl rfl rfl)) ?_
  refine a_op rfl (o_rem rfl rfl (by omega) (by omega)) ?_
  refine a_op rfl (o_cv tk5 tk3 rfl (by simp only [klo, khi]; omega)) ?_
  refine a_op rfl (o_add rfl rfl (by simp only [klo, khi]; omega)) ?_
  refine a_op rfl ((by first | exact o_fa tf44_1 rfl rfl | exact o_fap tf44_1 rfl rfl)) ?_
  refine a_op rfl ((by first | exact o_ld tg5 rfl rfl | exact o_ldp tg5 rfl rfl rfl rfl)) ?_
  refine a_op rfl (o_rem rfl rfl (by omega) (by omega)) ?_
  refine a_op rfl (o_add rfl rfl (by simp only [klo, khi]; omega)) ?_
  refine a_op rfl (o_bd tz37 rfl tp37 rfl rfl) ?_
  refine a_op rfl (o_al (N := 2) tz37 rfl rfl rfl) ?_
  refine a_op0 rfl (o_st (N := 4) tn37 rfl rfl rfl rfl rfl) ?_
  refine a_nil ?_
  refine tq_n ?_
  refine awp_seq ?_
  refine awp_seq ?_
  refine w_reg (l := r16_2.toList) rfl r16_2_ok ?_
  refine a_op rfl ((by first | exact o_fa tf37_1 rfl rfl | exact o_fap tf37_1 rfl rfl)) ?_
  refine a_op rfl ((by first | exact o_ld tg5 rfl rfl | exact o_ldp tg5 rfl rfl rfl rfl)) ?_
  refine a_nil ?_
  refine tq_n ?_
  refine awp_block ?_
  refine awp_seq ?_
  refine w_reg (l := r16_3.toList) rfl r16_3_ok ?_
  refine a_if rfl (o_eq rfl rfl) (fun h1 => ?_) (fun h2 => ?_)
  · refine a_op rfl (o_as rfl) ?_
    refine a_nil ?_
    refine tq_n ?_
    refine w_true rfl ?_
    refine awp_draw ⟨[[], [0], [0, 1], [0, 1, 2], [0, 1, 2, 3], [0, 1, 2, 3, 4], [0, 1, 2, 3, 4, 5], [], [7], [7, 8], [7, 8, 9], [0, 1, 2, 3, 4, 5, 6, 7, 8, 9, 10], [], [12], [12, 13], [12, 13, 14], [12, 13, 14, 15], [12, 13, 14, 15, 16], [12, 13, 14, 15, 16, 17], [], [19], [19, 20], [19, 20, 21], [12, 13, 14, 15, 16, 17, 18, 19, 20, 21, 22], [0, 1, 2, 3, 4, 5, 6, 7, 8, 9, 10, 11], [0, 1, 2, 3, 4, 5, 6, 7, 8, 9, 10, 11, 24], [0, 1, 2, 3, 4, 5, 6, 7, 8, 9, 10, 11, 12, 13, 14, 15, 16, 17, 18, 19, 20, 21, 22, 23, 24, 25], [0, 1, 2, 3, 4, 5, 6, 7, 8, 9, 10, 11, 12, 13, 14, 15, 16, 17, 18, 19, 20, 21, 22, 23, 24, 25, 26]], [[1], [18], [19], [20], [21], [22], [23], [1], [25], [26], [27], [24, 28], [1], [30], [31], [32], [33], [34], [35], [1], [37], [38], [39], [36, 40], [3], [29, 42], [3], [41, 43]], [[], [0], [], [], [], [], [], [], [0], [], [], [], [], [0], [], [], [], [], [], [], [0], [], [], [], [], [2], [], [2]], [none, none, none, none, none, none, none, none, none, none, none, none, none, none, none, none, none, none, none, none, none, none, none, none, none, some 2, none, some 2]⟩ mo r16_4_ok (by decide +kernel) (l := r16_4.toList) rfl ?_
    refine d_op rfl rfl rfl (fun _ => (by first | exact o_fa tf44_2 rfl rfl | exact o_fap tf44_2 rfl rfl)) ?_
    refine d_op rfl rfl rfl (fun _ => (by first | exact o_ld tg5 rfl rfl | exact o_ldp tg5 rfl rfl rfl rfl)) ?_
    refine d_op rfl rfl rfl (fun _ => o_rem rfl rfl (by omega) (by omega)) ?_
    refine d_op rfl rfl rfl (fun _ => o_cv tk5 tk3 rfl (by simp only [klo, khi]; omega)) ?_
    refine d_op rfl rfl rfl (fun _ => o_add rfl rfl (by simp only [klo, khi]; omega)) ?_
    refine d_op rfl rfl rfl (fun _ => o_mul rfl rfl (by simp only [klo, khi]; omega)) ?_
    refine d_op rfl rfl rfl (fun _ => o_add rfl rfl (by simp only [klo, khi]; omega)) ?_
    refine d_op rfl rfl rfl (fun _ => (by first | exact o_fa tf44_2 rfl rfl | exact o_fap tf44_2 rfl rfl)) ?_
    refine d_op rfl rfl rfl (fun _ => (by first | exact o_ld tg5 rfl rfl | exact o_ldp tg5 rfl rfl rfl rfl)) ?_
    refine d_op rfl rfl rfl (fun _ => o_quo rfl rfl (by simp only [klo, khi]; omega) (by omega)) ?_
    refine d_op rfl rfl rfl (fun _ => o_cv tk5 tk3 rfl (by simp only [klo, khi]; omega)) ?_
    refine d_op rfl rfl rfl (fun _ => o_add rfl rfl (by simp only [klo, khi]; omega)) ?_
    refine d_op rfl rfl rfl (fun _ => (by first | exact o_fa tf44_3 rfl rfl | exact o_fap tf44_3 rfl rfl)) ?_
    refine d_op rfl rfl rfl (fun _ => (by first | exact o_ld tg5 rfl rfl | exact o_ldp tg5 rfl rfl rfl rfl)) ?_
    refine d_op rfl rfl rfl (fun _ => o_rem rfl rfl (by omega) (by omega)) ?_
    refine d_op rfl rfl rfl (fun _ => o_cv tk5 tk3 rfl (by simp only [klo, khi]; omega)) ?_
    refine d_op rfl rfl rfl (fun _ => o_add rfl rfl (by simp only [klo, khi]; omega)) ?_
    refine d_op rfl rfl rfl (fun _ => o_mul rfl rfl (by simp only [klo, khi]; omega)) ?_
    refine d_op rfl rfl rfl (fun _ => o_add rfl rfl (by simp only [klo, khi]; omega)) ?_
    refine d_op rfl rfl rfl (fun _ => (by first | exact o_fa tf44_3 rfl rfl | exact o_fap tf44_3 rfl rfl)) ?_
    refine d_op rfl rfl rfl (fun _ => (by first | exact o_ld tg5 rfl rfl | exact o_ldp tg5 rfl rfl rfl rfl)) ?_
    refine d_op rfl rfl rfl (fun _ => o_quo rfl rfl (by simp only [klo, khi]; omega) (by omega)) ?_
    refine d_op rfl rfl rfl (fun _ => o_cv tk5 tk3 rfl (by simp only [klo, khi]; omega)) ?_
    refine d_op rfl rfl rfl (fun _ => o_add rfl rfl (by simp only [klo, khi]; omega)) ?_
    refine d_op rfl rfl rfl (fun _ => (by first | exact o_fa tf37_2 rfl rfl | exact o_fap tf37_2 rfl rfl)) ?_
    refine d_w0 rfl rfl rfl (fun _ => o_stD (N := 0) tn3 rfl rfl rfl rfl rfl rfl) rfl rfl rfl ?_
    refine d_op rfl rfl rfl (fun _ => (by first | exact o_fa tf37_3 rfl rfl | exact o_fap tf37_3 rfl rfl)) ?_
    refine d_w0 rfl rfl rfl (fun _ => o_stD (N := 0) tn3 rfl rfl rfl rfl rfl rfl) rfl rfl rfl ?_
    refine d_nil ?_
    refine bq_n ?_
    refine tq_n ?_
    refine awp_seq ?_
    refine w_reg (l := r16_10.toList) rfl r16_10_ok ?_
    refine a_op rfl ((by first | exact o_ldg tg37 tn37 rfl rfl | exact o_ldpg tg37 tn37 rfl rfl rfl rfl)) ?_
    refine a_op0 rfl (o_st (N := 4) tn37 rfl rfl rfl rfl rfl) ?_
    refine a_nil ?_
    refine tq_n ?_
    refine awp_ret ?_
    refine r_one rfl ⟨c_ag tg37 tn37 rfl rfl, trivial⟩ ?_
    rw [ruledF, if_pos (by omega)]
    exact rs_rule rfl (by first | omega | (dsimp only; omega)) rfl rfl rfl
  · refine a_op rfl (o_as rfl) ?_
    refine a_nil ?_
    refine tq_n ?_
    refine w_false rfl ?_
    refine awp_seq ?_
    refine w_reg (l := r16_5.toList) rfl r16_5_ok ?_
    refine a_if rfl (o_eq rfl rfl) (fun h3 => ?_) (fun h4 => ?_)
    · refine a_op rfl (o_as rfl) ?_
      refine a_nil ?_
      refine tq_n ?_
      refine w_true rfl ?_
      refine awp_seq ?_
      refine w_reg (l := r16_6.toList) rfl r16_6_ok ?_
      refine a_op rfl ((by first | exact o_fa tf44_2 rfl rfl | exact o_fap tf44_2 rfl rfl)) ?_
      refine a_op rfl ((by first | exact o_ld tg5 rfl rfl | exact o_ldp tg5 rfl rfl rfl rfl)) ?_
      refine a_op rfl (o_cv tk5 tk3 rfl (by simp only [klo, khi]; omega)) ?_
      refine a_op rfl (o_mul rfl rfl (by simp only [klo, khi]; omega)) ?_
      refine a_op rfl ((by first | exact o_fa tf37_2 rfl rfl | exact o_fap tf37_2 rfl rfl)) ?_
      refine a_op0 rfl (o_st (N := 0) tn3 rfl rfl rfl rfl rfl) ?_
      refine a_nil ?_
      refine tq_n ?_
      refine w_reg (l := r16_7.toList) rfl r16_7_ok ?_
      refine a_op rfl ((by first | exact o_fa tf37_2 rfl rfl | exact o_fap tf37_2 rfl rfl)) ?_
      refine a_op rfl ((by first | exact o_ld tg3 rfl rfl | exact o_ldp tg3 rfl rfl rfl rfl)) ?_
      refine a_op rfl ((by first | exact o_fa tf44_3 rfl rfl | exact o_fap tf44_3 rfl rfl)) ?_
      refine a_op rfl ((by first | exact o_ld tg5 rfl rfl | exact o_ldp tg5 rfl rfl rfl rfl)) ?_
      refine a_op rfl (o_rem rfl rfl (by omega) (by omega)) ?_
      refine a_op rfl (o_cv tk5 tk3 rfl (by simp only [klo, khi]; omega)) ?_
      refine a_op rfl (o_add rfl rfl (by simp only [klo, khi]; omega)) ?_
      refine a_op rfl ((by first | exact o_fa tf37_3 rfl rfl | exact o_fap tf37_3 rfl rfl)) ?_
      refine a_op0 rfl (o_st (N := 0) tn3 rfl rfl rfl rfl rfl) ?_
      refine a_nil ?_
      refine bq_n ?_
      refine tq_n ?_
      refine awp_seq ?_
      refine w_reg (l := r16_10.toList) rfl r16_10_ok ?_
      refine a_op rfl ((by first | exact o_ldg tg37 tn37 rfl rfl | exact o_ldpg tg37 tn37 rfl rfl rfl rfl)) ?_
      refine a_op0 rfl (o_st (N := 4) tn37 rfl rfl rfl rfl rfl) ?_
      refine a_nil ?_
      refine tq_n ?_
      refine awp_ret ?_
      refine r_one rfl ⟨c_ag tg37 tn37 rfl rfl, trivial⟩ ?_
      rw [ruledF, if_neg (by omega), if_pos (by omega)]
      exact rs_rule rfl (by first | omega | (dsimp only; omega)) rfl rfl rfl
    · refine a_op rfl (o_as rfl) ?_
      refine a_nil ?_
      refine tq_n ?_
      refine w_false rfl ?_
      refine awp_seq ?_
      refine w_reg (l := r16_8.toList) rfl r16_8_ok ?_
      refine a_if rfl (o_eq rfl rfl) (fun h5 => ?_) (fun h6 => ?_)
      · refine a_op rfl (o_as rfl) ?_
        refine a_nil ?_
        refine tq_n ?_
        refine w_true rfl ?_
        refine w_reg (l := r16_9.toList) rfl r16_9_ok ?_
        refine a_op rfl ((by first | exact o_fa tf44_2 rfl rfl | exact o_fap tf44_2 rfl rfl)) ?_
        refine a_op rfl ((by first | exact o_ld tg5 rfl rfl | exact o_ldp tg5 rfl rfl rfl rfl)) ?_
        refine a_op rfl (o_rem rfl rfl (by omega) (by omega)) ?_
        refine a_op rfl (o_add rfl rfl (by simp only [klo, khi]; omega)) ?_
        refine a_op rfl ((by first | exact o_fa tf37_4 rfl rfl | exact o_fap tf37_4 rfl rfl)) ?_
        refine a_op0 rfl (o_st (N := 0) tn5 rfl rfl rfl rfl rfl) ?_
        refine a_nil ?_
        refine bq_n ?_
        refine tq_n ?_
        refine awp_seq ?_
        refine w_reg (l := r16_10.toList) rfl r16_10_ok ?_
        refine a_op rfl ((by first | exact o_ldg tg37 tn37 rfl rfl | exact o_ldpg tg37 tn37 rfl rfl rfl rfl)) ?_
        refine a_op0 rfl (o_st (N := 4) tn37 rfl rfl rfl rfl rfl) ?_
        refine a_nil ?_
        refine tq_n ?_
        refine awp_ret ?_
        refine r_one rfl ⟨c_ag tg37 tn37 rfl rfl, trivial⟩ ?_
        rw [ruledF, if_neg (by omega), if_neg (by omega)]
        exact rs_rule rfl (by first | omega | (dsimp only; omega)) rfl rfl rfl
      · refine a_op rfl (o_as rfl) ?_
        refine a_nil ?_
        refine tq_n ?_
        refine w_false rfl ?_
        refine awp_skip ?_
        refine bq_n ?_
        refine tq_n ?_
        refine awp_seq ?_
        refine w_reg (l := r16_10.toList) rfl r16_10_ok ?_
        refine a_op rfl ((by first | exact o_ldg tg37 tn37 rfl rfl | exact o_ldpg tg37 tn37 rfl rfl rfl rfl)) ?_
        refine a_op0 rfl (o_st (N := 4) tn37 rfl rfl rfl rfl rfl) ?_
        refine a_nil ?_
        refine tq_n ?_
        refine awp_ret ?_
        refine r_one rfl ⟨c_ag tg37 tn37 rfl rfl, trivial⟩ ?_
        omega

def rulesF (l : List NoteR) : List RuleR := (l.take 30).map ruledF
def u8AV (n : Int) : AV := .raw (.int .u8 n)
@[simp] theorem pur_u8 (n : Int) : Pur (u8AV n) ↔ True := by simp [u8AV]
def offG : Int → List Int → List Int
  | _, [] => []
  | d, x :: t => (d + (1 + x % 64)) :: offG (d + (1 + x % 64)) t
def offE : Int → List Int → Int
  | d, [] => d
  | d, x :: t => offE (d + (1 + x % 64)) t
theorem offG_snoc (x : Int) : ∀ (l : List Int) (d : Int), offG d (l ++ [x]) = offG d l ++ [offE d l + (1 + x % 64)]
  | [], d => rfl
  | y :: t, d => by simp [offG, offE, offG_snoc x t]
theorem offE_snoc (x : Int) : ∀ (l : List Int) (d : Int), offE d (l ++ [x]) = offE d l + (1 + x % 64)
  | [], d => rfl
  | y :: t, d => by simp [offE, offE_snoc x t]
theorem offG_len : ∀ (l : List Int) (d : Int), (offG d l).length = l.length
  | [], _ => rfl
  | y :: t, d => by simp [offG, offG_len t]
theorem offE_bd : ∀ (l : List Int) (d : Int), d ≤ offE d l ∧ offE d l ≤ d + 64 * (l.length : Int)
  | [], d => by simp [offE]
  | y :: t, d => by
    have := offE_bd t (d + (1 + y % 64))
    simp only [offE, List.length_cons]
    have h2 : 0 ≤ y % 64 ∧ y % 64 < 64 := by omega
    omega
def offF (l : List Int) : List Int := offG (-1) (l.take 30)
theorem offG_incr : ∀ (l : List Int) (d : Int), d + 64 * (l.length : Int) ≤ 730484 → incr d (offG d l) = true
  | [], d, _ => rfl
  | y :: t, d, h => by
    have h2 : 0 ≤ y % 64 ∧ y % 64 < 64 := by omega
    simp only [List.length_cons] at h
    simp only [offG, incr, offG_incr t (d + (1 + y % 64)) (by omega), Bool.and_true, Bool.not_eq_true', Bool.or_eq_false_iff, decide_eq_false_iff_not]
    omega
theorem offF_right (l : List Int) : rightF (offF l) = true := by
  have h1 := List.length_take_le 30 l
  have h2 : (offF l).length ≤ 30 := by unfold offF; rw [offG_len]; exact h1
  simp only [rightF, Bool.and_eq_true, decide_eq_true_eq]
  exact ⟨offG_incr _ _ (by omega), by omega⟩

noncomputable def r12_0 : Array Oper := opsAt Tryd.f12 [0]
theorem r12_0_ok : dstOk 24 r12_0.toList = true ∧ r12_0.toList.all (fun o => noDefer o.op) = true := by decide +kernel
noncomputable def r12_1 : Array Oper := opsAt Tryd.f12 [1, 0]
theorem r12_1_ok : dstOk 24 r12_1.toList = true ∧ r12_1.toList.all (fun o => noDefer o.op) = true := by decide +kernel
noncomputable def r12_2 : Array Oper := opsAt Tryd.f12 [1, 1, 0, 0]
theorem r12_2_ok : dstOk 24 r12_2.toList = true ∧ r12_2.toList.all (fun o => noDefer o.op) = true := by decide +kernel
noncomputable def r12_3 : Array Oper := opsAt Tryd.f12 [1, 1, 0, 1, 0, 0, 0, 0]
theorem r12_3_ok : dstOk 24 r12_3.toList = true ∧ r12_3.toList.all (fun o => noDefer o.op) = true := by decide +kernel
noncomputable def r12_5 : Array Oper := opsAt Tryd.f12 [1, 1, 0, 1, 0, 0, 1, 0, 0]
theorem r12_5_ok : dstOk 24 r12_5.toList = true ∧ r12_5.toList.all (fun o => noDefer o.op) = true := by decide +kernel
noncomputable def r12_4 : Array Oper := opsAt Tryd.f12 [1, 1, 0, 1, 0, 0, 1, 1]
theorem r12_4_ok : dstOk 24 r12_4.toList = true ∧ r12_4.toList.all (fun o => noDefer o.op) = true := by decide +kernel
noncomputable def b12_0 : Code := (.seq (.seq (.region 3 r12_3 false) (.cond (.tmp 12) .skip (.exit 0))) (.seq (.block 1 (.region 5 r12_5 false)) (.region 4 r12_4 false)))
noncomputable def r12_6 : Array Oper := opsAt Tryd.f12 [1, 1, 1, 0]
theorem r12_6_ok : dstOk 24 r12_6.toList = true ∧ r12_6.toList.all (fun o => noDefer o.op) = true := by decide +kernel
noncomputable def c12 : Code := (.seq (.region 0 r12_0 false) (.seq (.region 1 r12_1 false) (.seq (.seq (.region 2 r12_2 false) (.block 0 (.loop b12_0))) (.seq (.region 6 r12_6 false) .ret))))
theorem body12 : Tryd.f12.body = some c12 := by kernel_rfl
theorem rules_ok (b : Bool) (l : List NoteR) (hl : l.length ≤ 9223372036854775807) (hx : ∀ x ∈ l, x.ok) : PureCall Tryd.prog GL 12 [.sl 4 b (l.map noteAV)] (.sl 5 false ((rulesF l).map ruleAV)) := by
  refine pure_of_body Tryd.func12 body12 (Nat.le_of_ble_eq_true rfl) (by simp) (by simp) ?_
  refine w_keep [(0, .sl 4 b (l.map noteAV))] ⟨rfl, trivial⟩ ?_
  unfold c12
  refine awp_seq ?_
  refine w_reg (l := r12_0.toList) rfl r12_0_ok ?_
  refine a_op rfl (o_as rfl) ?_
  refine a_nil ?_
  refine tq_n ?_
  refine awp_seq ?_
  refine w_reg (l := r12_1.toList) rfl r12_1_ok ?_
  refine a_op rfl (o_as rfl) ?_
  refine a_nil ?_
  refine tq_n ?_
  refine awp_seq ?_
  refine awp_seq ?_
  refine w_own (q := 3) (z := 5) (N := 0) (by decide) rfl rfl rfl ?_
  refine w_reg (l := r12_2.toList) rfl r12_2_ok ?_
  refine a_op rfl (o_as rfl) ?_
  refine a_nil ?_
  refine tq_n ?_
  refine awp_block ?_
  refine w_loop (fun i : Nat => i ≤ l.length ∧ i ≤ 30) (fun i => [(0, .sl 4 b (l.map noteAV)), (3, .slo 0 i 0 i), (4, .raw (.int .i64 (i : Int)))]) (fun i => [.vec 5 i (((l.take i).map ruledF).map ruleAV)]) (fun i => 30 - i) (0) ⟨by simp, by omega⟩ ⟨(by first | exact sub_int rfl (by omega) | rfl | exact sub_eq rfl (by simp)), (by first | exact sub_int rfl (by omega) | rfl | exact sub_eq rfl (by simp)), (by first | exact sub_int rfl (by omega) | rfl | exact sub_eq rfl (by simp)), trivial⟩ rfl ?_
  intro i ⟨hp1, hp2⟩
  unfold b12_0
  refine awp_seq ?_
  refine awp_seq ?_
  refine w_reg (l := r12_3.toList) rfl r12_3_ok ?_
  refine a_op rfl (o_mv rfl) ?_
  refine a_op rfl (o_mv rfl) ?_
  refine a_op rfl (o_len rfl rfl (by first | exact List.length_map .. | rfl) tl22) ?_
  refine a_if rfl (o_lt rfl rfl) (fun h1 => ?_) (fun h2 => ?_)
  · refine a_op rfl (o_mv rfl) ?_
    refine a_op rfl (o_mv rfl) ?_
    refine a_if rfl (o_lt rfl rfl) (fun h3 => ?_) (fun h4 => ?_)
    · refine a_op rfl (o_pkt rfl rfl) ?_
      refine a_nil ?_
      refine tq_n ?_
      refine w_true rfl ?_
      refine awp_skip ?_
      refine tq_n ?_
      refine awp_seq ?_
      refine awp_block ?_
      refine w_reg (l := r12_5.toList) rfl r12_5_ok ?_
      refine a_op rfl (o_mv rfl) ?_
      refine a_op rfl (o_mv rfl) ?_
      refine a_op rfl (o_mv rfl) ?_
      refine a_op rfl (o_ix te22 tn44 rfl rfl rfl (ixm _ _ _ (by omega))) ?_
      refine a_op rfl ((by first | exact o_ldg tg44 tn44 rfl rfl | exact o_ldpg tg44 tn44 rfl rfl rfl rfl)) ?_
      refine a_pure rfl rfl rfl cb16 (ruled_ok _ (hx _ (List.getElem_mem _))) ?_
      refine a_op rfl (o_bs tE32 (by decide) rfl rfl rfl) ?_
      refine a_op rfl (o_ap tE32 rfl rfl (by simp [offG_len]; omega) rfl rfl rfl (by simp [offG_len]; omega) (by simp [offG_len]; omega) rfl rfl rfl rfl) ?_
      refine a_op rfl (o_as rfl) ?_
      refine a_nil ?_
      refine bq_n ?_
      refine tq_n ?_
      refine w_reg (l := r12_4.toList) rfl r12_4_ok ?_
      refine a_op rfl (o_mv rfl) ?_
      refine a_op rfl (o_add rfl rfl (by simp only [klo, khi]; omega)) ?_
      refine a_op rfl (o_as rfl) ?_
      refine a_nil ?_
      refine tq_n ?_
      exact ⟨i + 1, ⟨⟨by omega, by omega⟩, by omega⟩, ⟨(by first | exact sub_int rfl (by omega) | rfl | exact sub_eq rfl (by simp)), (by first | exact sub_int rfl (by omega) | rfl | exact sub_eq rfl (by simp)), (by first | exact sub_int rfl (by omega) | rfl | exact sub_eq rfl (by simp)), trivial⟩, by rw [List.take_succ_eq_append_getElem (by omega)]; simp only [List.map_append, List.map_cons, List.map_nil]; try rfl⟩
    · refine a_op rfl (o_pkt rfl rfl) ?_
      refine a_nil ?_
      refine tq_n ?_
      refine w_false rfl ?_
      refine awp_exit ?_
      refine tq_x ?_
      refine tq_x ?_
      refine bq_hit ?_
      refine tq_n ?_
      refine awp_seq ?_
      refine w_reg (l := r12_6.toList) rfl r12_6_ok ?_
      refine a_op rfl (o_mv rfl) ?_
      refine a_op rfl (o_as rfl) ?_
      refine a_nil ?_
      refine tq_n ?_
      refine awp_ret ?_
      refine r_one rfl ⟨rfl, trivial⟩ ?_
      have ht : l.take i = l.take 30 := by
        rcases Nat.lt_or_ge i 30 with h | h
        · rw [List.take_of_length_le (show l.length ≤ i by omega), List.take_of_length_le (show l.length ≤ 30 by omega)]
        · rw [show i = 30 by omega]
      exact rs_slo id rfl (by simp; omega) (by simp) (by rw [rulesF, ht])
  · refine a_op rfl (o_mv rfl) ?_
    refine a_off rfl ?_
    refine a_off rfl ?_
    refine a_op rfl (o_pkf rfl rfl) ?_
    refine a_nil ?_
    refine tq_n ?_
    refine w_false rfl ?_
    refine awp_exit ?_
    refine tq_x ?_
    refine tq_x ?_
    refine bq_hit ?_
    refine tq_n ?_
    refine awp_seq ?_
    refine w_reg (l := r12_6.toList) rfl r12_6_ok ?_
    refine a_op rfl (o_mv rfl) ?_
    refine a_op rfl (o_as rfl) ?_
    refine a_nil ?_
    refine tq_n ?_
    refine awp_ret ?_
    refine r_one rfl ⟨rfl, trivial⟩ ?_
    have ht : l.take i = l.take 30 := by
      rcases Nat.lt_or_ge i 30 with h | h
      · rw [List.take_of_length_le (show l.length ≤ i by omega), List.take_of_length_le (show l.length ≤ 30 by omega)]
      · rw [show i = 30 by omega]
    exact rs_slo id rfl (by simp; omega) (by simp) (by rw [rulesF, ht])
noncomputable def r13_0 : Array Oper := opsAt Tryd.f13 [0]
theorem r13_0_ok : dstOk 30 r13_0.toList = true ∧ r13_0.toList.all (fun o => noDefer o.op) = true := by decide +kernel
noncomputable def r13_1 : Array Oper := opsAt Tryd.f13 [1, 0]
theorem r13_1_ok : dstOk 30 r13_1.toList = true ∧ r13_1.toList.all (fun o => noDefer o.op) = true := by decide +kernel
noncomputable def r13_2 : Array Oper := opsAt Tryd.f13 [1, 1, 0]
theorem r13_2_ok : dstOk 30 r13_2.toList = true ∧ r13_2.toList.all (fun o => noDefer o.op) = true := by decide +kernel
noncomputable def r13_3 : Array Oper := opsAt Tryd.f13 [1, 1, 1, 0, 0]
theorem r13_3_ok : dstOk 30 r13_3.toList = true ∧ r13_3.toList.all (fun o => noDefer o.op) = true := by decide +kernel
noncomputable def r13_4 : Array Oper := opsAt Tryd.f13 [1, 1, 1, 0, 1, 0, 0, 0, 0]
theorem r13_4_ok : dstOk 30 r13_4.toList = true ∧ r13_4.toList.all (fun o => noDefer o.op) = true := by decide +kernel
noncomputable def r13_6 : Array Oper := opsAt Tryd.f13 [1, 1, 1, 0, 1, 0, 0, 1, 0, 0, 0]
theorem r13_6_ok : dstOk 30 r13_6.toList = true ∧ r13_6.toList.all (fun o => noDefer o.op) = true := by decide +kernel
noncomputable def r13_7 : Array Oper := opsAt Tryd.f13 [1, 1, 1, 0, 1, 0, 0, 1, 0, 0, 1]
theorem r13_7_ok : dstOk 30 r13_7.toList = true ∧ r13_7.toList.all (fun o => noDefer o.op) = true := by decide +kernel
noncomputable def r13_5 : Array Oper := opsAt Tryd.f13 [1, 1, 1, 0, 1, 0, 0, 1, 1]
theorem r13_5_ok : dstOk 30 r13_5.toList = true ∧ r13_5.toList.all (fun o => noDefer o.op) = true := by decide +kernel
noncomputable def b13_0 : Code := (.seq (.seq (.region 4 r13_4 false) (.cond (.tmp 13) .skip (.exit 0))) (.seq (.block 1 (.seq (.region 6 r13_6 false) (.region 7 r13_7 false))) (.region 5 r13_5 false)))
noncomputable def r13_8 : Array Oper := opsAt Tryd.f13 [1, 1, 1, 1, 0]
theorem r13_8_ok : dstOk 30 r13_8.toList = true ∧ r13_8.toList.all (fun o => noDefer o.op) = true := by decide +kernel
noncomputable def c13 : Code := (.seq (.region 0 r13_0 false) (.seq (.region 1 r13_1 false) (.seq (.region 2 r13_2 false) (.seq (.seq (.region 3 r13_3 false) (.block 0 (.loop b13_0))) (.seq (.region 8 r13_8 false) .ret)))))
theorem body13 : Tryd.f13.body = some c13 := by kernel_rfl
theorem off_ok (b : Bool) (l : List Int) (hl : l.length ≤ 9223372036854775807) (hx : ∀ x ∈ l, u8r x) : PureCall Tryd.prog GL 13 [.sl 1 b (l.map u8AV)] (.sl 1 false ((offF l).map intAV)) := by
  refine pure_of_body Tryd.func13 body13 (Nat.le_of_ble_eq_true rfl) (by simp) (by simp) ?_
  refine w_keep [(0, .sl 1 b (l.map u8AV))] ⟨rfl, trivial⟩ ?_
  unfold c13
  refine awp_seq ?_
  refine w_reg (l := r13_0.toList) rfl r13_0_ok ?_
  refine a_op rfl (o_as rfl) ?_
  refine a_nil ?_
  refine tq_n ?_
  refine awp_seq ?_
  refine w_reg (l := r13_1.toList) rfl r13_1_ok ?_
  refine a_op rfl (o_as rfl) ?_
  refine a_nil ?_
  refine tq_n ?_
  refine awp_seq ?_
  refine w_own (q := 3) (z := 1) (N := 0) (by decide) rfl rfl rfl ?_
  refine w_reg (l := r13_2.toList) rfl r13_2_ok ?_
  refine a_op rfl (o_as rfl) ?_
  refine a_nil ?_
  refine tq_n ?_
  refine awp_seq ?_
  refine awp_seq ?_
  refine w_reg (l := r13_3.toList) rfl r13_3_ok ?_
  refine a_op rfl (o_as rfl) ?_
  refine a_nil ?_
  refine tq_n ?_
  refine awp_block ?_
  refine w_loop (fun i : Nat => i ≤ l.length ∧ i ≤ 30) (fun i => [(0, .sl 1 b (l.map u8AV)), (3, .slo 0 i 0 i), (4, .raw (.int .i64 (offE (-1) (l.take i)))), (5, .raw (.int .i64 (i : Int)))]) (fun i => [.vec 1 i ((offG (-1) (l.take i)).map intAV)]) (fun i => 30 - i) (0) ⟨by simp, by omega⟩ ⟨(by first | exact sub_int rfl (by omega) | rfl | exact sub_int rfl (by rw [List.take_succ_eq_append_getElem (by omega), offE_snoc]) | exact sub_eq rfl (by simp [offG_len])), (by first | exact sub_int rfl (by omega) | rfl | exact sub_int rfl (by rw [List.take_succ_eq_append_getElem (by omega), offE_snoc]) | exact sub_eq rfl (by simp [offG_len])), (by first | exact sub_int rfl (by omega) | rfl | exact sub_int rfl (by rw [List.take_succ_eq_append_getElem (by omega), offE_snoc]) | exact sub_eq rfl (by simp [offG_len])), (by first | exact sub_int rfl (by omega) | rfl | exact sub_int rfl (by rw [List.take_succ_eq_append_getElem (by omega), offE_snoc]) | exact sub_eq rfl (by simp [offG_len])), trivial⟩ rfl ?_
  intro i ⟨hp1, hp2⟩
  have hoE := offE_bd (l.take i) (-1)
  have htk := List.length_take_le i l
  unfold b13_0
  refine awp_seq ?_
  refine awp_seq ?_
  refine w_reg (l := r13_4.toList) rfl r13_4_ok ?_
  refine a_op rfl (o_mv rfl) ?_
  refine a_op rfl (o_mv rfl) ?_
  refine a_op rfl (o_len rfl rfl (by first | exact List.length_map .. | rfl) tl23) ?_
  refine a_if rfl (o_lt rfl rfl) (fun h1 => ?_) (fun h2 => ?_)
  · refine a_op rfl (o_mv rfl) ?_
    refine a_op rfl (o_mv rfl) ?_
    refine a_if rfl (o_lt rfl rfl) (fun h3 => ?_) (fun h4 => ?_)
    · refine a_op rfl (o_pkt rfl rfl) ?_
      refine a_nil ?_
      refine tq_n ?_
      refine w_true rfl ?_
      refine awp_skip ?_
      refine tq_n ?_
      refine awp_seq ?_
      refine awp_block ?_
      refine awp_seq ?_
      have hi : i < l.length := by omega
      have hxi := hx _ (List.getElem_mem hi)
      unfold u8r at hxi
      refine w_reg (l := r13_6.toList) rfl r13_6_ok ?_
      refine a_op rfl (o_mv rfl) ?_
      refine a_op rfl (o_mv rfl) ?_
      refine a_op rfl (o_mv rfl) ?_
      refine a_op rfl (o_ix te23 tn5 rfl rfl rfl (ixm _ _ _ (by omega))) ?_
      refine a_op rfl ((by first | exact o_ld tg5 rfl rfl | exact o_ldp tg5 rfl rfl rfl rfl)) ?_
      refine a_op rfl (o_rem rfl rfl (by omega) (by omega)) ?_
      refine a_op rfl (o_cv tk5 tk3 rfl (by simp only [klo, khi]; omega)) ?_
      refine a_op rfl (o_add rfl rfl (by simp only [klo, khi]; omega)) ?_
      refine a_op rfl (o_add rfl rfl (by simp only [klo, khi]; omega)) ?_
      refine a_op rfl (o_as rfl) ?_
      refine a_nil ?_
      refine tq_n ?_
      refine w_reg (l := r13_7.toList) rfl r13_7_ok ?_
      refine a_op rfl (o_mv rfl) ?_
      refine a_op rfl (o_mv rfl) ?_
      refine a_op rfl (o_bs tE34 (by decide) rfl rfl rfl) ?_
      refine a_op rfl (o_ap tE34 rfl rfl (by simp [offG_len]; omega) rfl rfl rfl (by simp [offG_len]; omega) (by simp [offG_len]; omega) rfl rfl rfl rfl) ?_
      refine a_op rfl (o_as rfl) ?_
      refine a_nil ?_
      refine bq_n ?_
      refine tq_n ?_
      refine w_reg (l := r13_5.toList) rfl r13_5_ok ?_
      refine a_op rfl (o_mv rfl) ?_
      refine a_op rfl (o_add rfl rfl (by simp only [klo, khi]; omega)) ?_
      refine a_op rfl (o_as rfl) ?_
      refine a_nil ?_
      refine tq_n ?_
      exact ⟨i + 1, ⟨⟨by omega, by omega⟩, by omega⟩, ⟨(by first | exact sub_int rfl (by omega) | rfl | exact sub_int rfl (by rw [List.take_succ_eq_append_getElem (by omega), offE_snoc]) | exact sub_eq rfl (by simp [offG_len])), (by first | exact sub_int rfl (by omega) | rfl | exact sub_int rfl (by rw [List.take_succ_eq_append_getElem (by omega), offE_snoc]) | exact sub_eq rfl (by simp [offG_len])), (by first | exact sub_int rfl (by omega) | rfl | exact sub_int rfl (by rw [List.take_succ_eq_append_getElem (by omega), offE_snoc]) | exact sub_eq rfl (by simp [offG_len])), (by first | exact sub_int rfl (by omega) | rfl | exact sub_int rfl (by rw [List.take_succ_eq_append_getElem (by omega), offE_snoc]) | exact sub_eq rfl (by simp [offG_len])), trivial⟩, by rw [List.take_succ_eq_append_getElem (by omega), offG_snoc]; simp only [List.map_append, List.map_cons, List.map_nil]; try rfl⟩
    · refine a_op rfl (o_pkt rfl rfl) ?_
      refine a_nil ?_
      refine tq_n ?_
      refine w_false rfl ?_
      refine awp_exit ?_
      refine tq_x ?_
      refine tq_x ?_
      refine bq_hit ?_
      refine tq_n ?_
      refine awp_seq ?_
      refine w_reg (l := r13_8.toList) rfl r13_8_ok ?_
      refine a_op rfl (o_mv rfl) ?_
      refine a_op rfl (o_as rfl) ?_
      refine a_nil ?_
      refine tq_n ?_
      refine awp_ret ?_
      refine r_one rfl ⟨rfl, trivial⟩ ?_
      have ht : l.take i = l.take 30 := by
        rcases Nat.lt_or_ge i 30 with h | h
        · rw [List.take_of_length_le (show l.length ≤ i by omega), List.take_of_length_le (show l.length ≤ 30 by omega)]
        · rw [show i = 30 by omega]
      exact rs_slo id rfl (by simp [offG_len]; omega) (by simp) (by rw [offF, ht])
  · refine a_op rfl (o_mv rfl) ?_
    refine a_off rfl ?_
    refine a_off rfl ?_
    refine a_op rfl (o_pkf rfl rfl) ?_
    refine a_nil ?_
    refine tq_n ?_
    refine w_false rfl ?_
    refine awp_exit ?_
    refine tq_x ?_
    refine tq_x ?_
    refine bq_hit ?_
    refine tq_n ?_
    refine awp_seq ?_
    refine w_reg (l := r13_8.toList) rfl r13_8_ok ?_
    refine a_op rfl (o_mv rfl) ?_
    refine a_op rfl (o_as rfl) ?_
    refine a_nil ?_
    refine tq_n ?_
    refine awp_ret ?_
    refine r_one rfl ⟨rfl, trivial⟩ ?_
    have ht : l.take i = l.take 30 := by
      rcases Nat.lt_or_ge i 30 with h | h
      · rw [List.take_of_length_le (show l.length ≤ i by omega), List.take_of_length_le (show l.length ≤ 30 by omega)]
      · rw [show i = 30 by omega]
    exact rs_slo id rfl (by simp [offG_len]; omega) (by simp) (by rw [offF, ht])

def bs0 : ByteArray := { data := #[] }
def sixA (i : Int) : PtR := ⟨i, 1, 2, i, bs0, bs0, 0, i⟩
def sixB (i : Int) : PtR := ⟨i, 1, 0, 0, bs0, bs0, i, i⟩
def sixPt (i : Int) : PtR := if i ≤ 3 then sixA i else sixB i
def sixL (k : Nat) : List PtR := (List.range k).map (fun j : Nat => sixPt (1 + (j : Int)))
theorem sixL_succ (k : Nat) : sixL (k + 1) = sixL k ++ [sixPt (1 + (k : Int))] := by simp [sixL, List.range_succ]
theorem sixL_len (k : Nat) : (sixL k).length = k := by simp [sixL]
def nilS : AV := .raw (.slice none 0 0)

noncomputable def r11_0 : Array Oper := opsAt Tryd.f11 [0]
theorem r11_0_ok : dstOk 25 r11_0.toList = true ∧ r11_0.toList.all (fun o => noDefer o.op) = true := by decide +kernel
noncomputable def r11_1 : Array Oper := opsAt Tryd.f11 [1, 0]
theorem r11_1_ok : dstOk 25 r11_1.toList = true ∧ r11_1.toList.all (fun o => noDefer o.op) = true := by decide +kernel
noncomputable def r11_2 : Array Oper := opsAt Tryd.f11 [1, 1, 0, 0]
theorem r11_2_ok : dstOk 25 r11_2.toList = true ∧ r11_2.toList.all (fun o => noDefer o.op) = true := by decide +kernel
noncomputable def r11_3 : Array Oper := opsAt Tryd.f11 [1, 1, 0, 1, 0, 0, 0, 0]
theorem r11_3_ok : dstOk 25 r11_3.toList = true ∧ r11_3.toList.all (fun o => noDefer o.op) = true := by decide +kernel
noncomputable def r11_5 : Array Oper := opsAt Tryd.f11 [1, 1, 0, 1, 0, 0, 1, 0, 0, 0]
theorem r11_5_ok : dstOk 25 r11_5.toList = true ∧ r11_5.toList.all (fun o => noDefer o.op) = true := by decide +kernel
noncomputable def r11_6 : Array Oper := opsAt Tryd.f11 [1, 1, 0, 1, 0, 0, 1, 0, 0, 1, 0, 0]
theorem r11_6_ok : dstOk 25 r11_6.toList = true ∧ r11_6.toList.all (fun o => noDefer o.op) = true := by decide +kernel
noncomputable def r11_7 : Array Oper := opsAt Tryd.f11 [1, 1, 0, 1, 0, 0, 1, 0, 0, 1, 0, 1, 0]
theorem r11_7_ok : dstOk 25 r11_7.toList = true ∧ r11_7.toList.all (fun o => noDefer o.op) = true := by decide +kernel
noncomputable def r11_8 : Array Oper := opsAt Tryd.f11 [1, 1, 0, 1, 0, 0, 1, 0, 0, 1, 0, 1, 1]
theorem r11_8_ok : dstOk 25 r11_8.toList = true ∧ r11_8.toList.all (fun o => noDefer o.op) = true := by decide +kernel
noncomputable def r11_9 : Array Oper := opsAt Tryd.f11 [1, 1, 0, 1, 0, 0, 1, 0, 0, 1, 1]
theorem r11_9_ok : dstOk 25 r11_9.toList = true ∧ r11_9.toList.all (fun o => noDefer o.op) = true := by decide +kernel
noncomputable def r11_4 : Array Oper := opsAt Tryd.f11 [1, 1, 0, 1, 0, 0, 1, 1]
theorem r11_4_ok : dstOk 25 r11_4.toList = true ∧ r11_4.toList.all (fun o => noDefer o.op) = true := by decide +kernel
noncomputable def b11_0 : Code := (.seq (.seq (.region 3 r11_3 false) (.cond (.tmp 5) .skip (.exit 0))) (.seq (.block 1 (.seq (.region 5 r11_5 false) (.seq (.seq (.region 6 r11_6 false) (.cond (.tmp 12) (.region 7 r11_7 false) (.region 8 r11_8 false))) (.region 9 r11_9 false)))) (.region 4 r11_4 false)))
noncomputable def r11_10 : Array Oper := opsAt Tryd.f11 [1, 1, 1, 0]
theorem r11_10_ok : dstOk 25 r11_10.toList = true ∧ r11_10.toList.all (fun o => noDefer o.op) = true := by decide +kernel
noncomputable def c11 : Code := (.seq (.region 0 r11_0 false) (.seq (.region 1 r11_1 false) (.seq (.seq (.region 2 r11_2 false) (.block 0 (.loop b11_0))) (.seq (.region 10 r11_10 false) .ret))))
theorem body11 : Tryd.f11.body = some c11 := by kernel_rfl
theorem six_ok  : PureCall Tryd.prog GL 11 [] (refAV nilS nilS nilS false (sixL 6)) := by
  refine pure_of_body Tryd.func11 body11 (Nat.le_of_ble_eq_true rfl) (by simp) (by simp [refAV, nilS]) ?_
  skip
  unfold c11
  refine awp_seq ?_
  refine w_reg (l := r11_0.toList) rfl r11_0_ok ?_
  refine a_op rfl (o_al (N := 0) tz30 rfl rfl rfl) ?_
  refine a_nil ?_
  refine tq_n ?_
  refine awp_seq ?_
  refine w_reg (l := r11_1.toList) rfl r11_1_ok ?_
  refine a_op rfl (o_al (N := 1) tz30 rfl rfl rfl) ?_
  refine a_nil ?_
  refine tq_n ?_
  refine awp_seq ?_
  refine awp_seq ?_
  refine w_ownc (i := 1) (j := 3) (z := 8) (N := 2) (by decide) rfl rfl rfl rfl rfl rfl ?_
  refine w_reg (l := r11_2.toList) rfl r11_2_ok ?_
  refine a_op rfl (o_as rfl) ?_
  refine a_nil ?_
  refine tq_n ?_
  refine awp_block ?_
  refine w_loop (fun k : Nat => k ≤ 6) (fun k => [(0, .ptr 0 0), (1, .ptr 1 0), (2, .raw (.int .i64 (1 + (k : Int))))]) (fun k => [.var [nilS, nilS, nilS, nilS], .var [nilS, nilS, nilS, .slo 2 (k) 0 (k)], .vec 8 (k) ((sixL k).map ptAV)]) (fun k => 6 - k) (0) (by omega) ⟨(by first | exact sub_int rfl (by omega) | rfl), (by first | exact sub_int rfl (by omega) | rfl), (by first | exact sub_int rfl (by omega) | rfl), trivial⟩ rfl ?_
  intro k hp1
  unfold b11_0
  refine awp_seq ?_
  refine awp_seq ?_
  refine w_reg (l := r11_3.toList) rfl r11_3_ok ?_
  refine a_op rfl (o_mv rfl) ?_
  refine a_if rfl (o_le rfl rfl) (fun h1 => ?_) (fun h2 => ?_)
  · refine a_nil ?_
    refine tq_n ?_
    refine w_true rfl ?_
    refine awp_skip ?_
    refine tq_n ?_
    refine awp_seq ?_
    refine awp_block ?_
    refine awp_seq ?_
    refine w_reg (l := r11_5.toList) rfl r11_5_ok ?_
    refine a_op rfl (o_mv rfl) ?_
    refine a_op rfl (o_mv rfl) ?_
    refine a_op rfl (o_bd tz39 rfl tp39 rfl rfl) ?_
    refine a_op rfl (o_al (N := 3) tz39 rfl rfl rfl) ?_
    refine a_op0 rfl (o_st (N := 7) tn39 rfl rfl (by first | rfl | (simp [AV.goodPart, AV.good, AV.isCell, fresh, nilS, Value.oneCell']; done)) rfl rfl) ?_
    refine a_nil ?_
    refine tq_n ?_
    refine awp_seq ?_
    refine awp_seq ?_
    refine w_reg (l := r11_6.toList) rfl r11_6_ok ?_
    refine a_op rfl (o_mv rfl) ?_
    refine a_if rfl (o_le rfl rfl) (fun h3 => ?_) (fun h4 => ?_)
    · refine a_nil ?_
      refine tq_n ?_
      refine w_true rfl ?_
      refine w_reg (l := r11_7.toList) rfl r11_7_ok ?_
      refine a_op rfl (o_mv rfl) ?_
      refine a_op rfl ((by first | exact o_fa tf39_2 rfl rfl | exact o_fap tf39_2 rfl rfl)) ?_
      refine a_op0 rfl (o_st (N := 0) tn3 rfl rfl (by first | rfl | (simp [AV.goodPart, AV.good, AV.isCell, fresh, nilS, Value.oneCell']; done)) rfl rfl) ?_
      refine a_op rfl ((by first | exact o_fa tf39_3 rfl rfl | exact o_fap tf39_3 rfl rfl)) ?_
      refine a_op0 rfl (o_st (N := 0) tn3 rfl rfl (by first | rfl | (simp [AV.goodPart, AV.good, AV.isCell, fresh, nilS, Value.oneCell']; done)) rfl rfl) ?_
      refine a_nil ?_
      refine tq_n ?_
      refine w_reg (l := r11_9.toList) rfl r11_9_ok ?_
      refine a_op rfl ((by first | exact o_fa tf30_3 rfl rfl | exact o_fap tf30_3 rfl rfl)) ?_
      refine a_op rfl ((by first | exact o_ld tg28 rfl rfl | exact o_ldp tg28 rfl rfl rfl rfl)) ?_
      refine a_op rfl ((by first | exact o_ldg tg39 tn39 rfl rfl | exact o_ldpg tg39 tn39 rfl rfl rfl rfl)) ?_
      refine a_op rfl (o_bs tE28 (by decide) rfl rfl rfl) ?_
      refine a_op rfl (o_ap tE28 rfl rfl (by simp [sixL_len]) rfl rfl rfl (by simp [sixL_len]; omega) (by simp [sixL_len]; omega) rfl rfl rfl rfl) ?_
      refine a_op rfl ((by first | exact o_fa tf30_3 rfl rfl | exact o_fap tf30_3 rfl rfl)) ?_
      refine a_op0 rfl (o_st (N := 0) tn28 rfl rfl (by first | rfl | (simp [AV.goodPart, AV.good, AV.isCell, fresh, nilS, Value.oneCell']; done)) rfl rfl) ?_
      refine a_nil ?_
      refine bq_n ?_
      refine tq_n ?_
      refine w_view [(0, .ptr 0 0), (1, .ptr 1 0), (2, .raw (.int .i64 (1 + (k : Int))))] ([.var [nilS, nilS, nilS, nilS], .var [nilS, nilS, nilS, .slo 2 (k + 1) 0 (k + 1)], .vec 8 (k + 1) ((sixL k).map ptAV ++ [ptAV (sixA (1 + (k : Int)))])]) 3 rfl (Nat.le_of_ble_eq_true rfl) (Nat.le_of_ble_eq_true rfl) ⟨⟨_, rfl, (by first | exact .ylK (Nat.le_of_ble_eq_true rfl) | exact .ptrK (Nat.le_of_ble_eq_true rfl) | exact rs_pur (by simp) rfl)⟩, ⟨_, rfl, (by first | exact .ylK (Nat.le_of_ble_eq_true rfl) | exact .ptrK (Nat.le_of_ble_eq_true rfl) | exact rs_pur (by simp) rfl)⟩, ⟨_, rfl, (by first | exact .ylK (Nat.le_of_ble_eq_true rfl) | exact .ptrK (Nat.le_of_ble_eq_true rfl) | exact rs_pur (by simp) rfl)⟩, trivial⟩ ⟨ors_var ⟨rs_pur (by simp [nilS]) rfl, rs_pur (by simp [nilS]) rfl, rs_pur (by simp [nilS]) rfl, rs_pur (by simp [nilS]) rfl, trivial⟩, ors_var ⟨rs_pur (by simp [nilS]) rfl, rs_pur (by simp [nilS]) rfl, rs_pur (by simp [nilS]) rfl, .sloK (Nat.le_of_ble_eq_true rfl), trivial⟩, ors_vec (by rintro x hx; simp at hx; rcases hx with ⟨a, _, rfl⟩ | rfl <;> simp), trivial⟩ ?_
      refine w_reg (l := r11_4.toList) rfl r11_4_ok ?_
      refine a_op rfl (o_mv rfl) ?_
      refine a_op rfl (o_add rfl rfl (by simp only [klo, khi]; omega)) ?_
      refine a_op rfl (o_as rfl) ?_
      refine a_nil ?_
      refine tq_n ?_
      exact ⟨k + 1, ⟨by omega, by omega⟩, ⟨(by first | exact sub_int rfl (by omega) | rfl), (by first | exact sub_int rfl (by omega) | rfl), (by first | exact sub_int rfl (by omega) | rfl), trivial⟩, by rw [sixL_succ]; simp only [List.map_append, List.map_cons, List.map_nil]; (first | rw [sixPt, if_pos (by omega)] | rw [sixPt, if_neg (by omega)])⟩
    · refine a_nil ?_
      refine tq_n ?_
      refine w_false rfl ?_
      refine w_reg (l := r11_8.toList) rfl r11_8_ok ?_
      refine a_op rfl (o_mv rfl) ?_
      refine a_op rfl ((by first | exact o_fa tf39_6 rfl rfl | exact o_fap tf39_6 rfl rfl)) ?_
      refine a_op0 rfl (o_st (N := 0) tn3 rfl rfl (by first | rfl | (simp [AV.goodPart, AV.good, AV.isCell, fresh, nilS, Value.oneCell']; done)) rfl rfl) ?_
      refine a_nil ?_
      refine tq_n ?_
      refine w_reg (l := r11_9.toList) rfl r11_9_ok ?_
      refine a_op rfl ((by first | exact o_fa tf30_3 rfl rfl | exact o_fap tf30_3 rfl rfl)) ?_
      refine a_op rfl ((by first | exact o_ld tg28 rfl rfl | exact o_ldp tg28 rfl rfl rfl rfl)) ?_
      refine a_op rfl ((by first | exact o_ldg tg39 tn39 rfl rfl | exact o_ldpg tg39 tn39 rfl rfl rfl rfl)) ?_
      refine a_op rfl (o_bs tE28 (by decide) rfl rfl rfl) ?_
      refine a_op rfl (o_ap tE28 rfl rfl (by simp [sixL_len]) rfl rfl rfl (by simp [sixL_len]; omega) (by simp [sixL_len]; omega) rfl rfl rfl rfl) ?_
      refine a_op rfl ((by first | exact o_fa tf30_3 rfl rfl | exact o_fap tf30_3 rfl rfl)) ?_
      refine a_op0 rfl (o_st (N := 0) tn28 rfl rfl (by first | rfl | (simp [AV.goodPart, AV.good, AV.isCell, fresh, nilS, Value.oneCell']; done)) rfl rfl) ?_
      refine a_nil ?_
      refine bq_n ?_
      refine tq_n ?_
      refine w_view [(0, .ptr 0 0), (1, .ptr 1 0), (2, .raw (.int .i64 (1 + (k : Int))))] ([.var [nilS, nilS, nilS, nilS], .var [nilS, nilS, nilS, .slo 2 (k + 1) 0 (k + 1)], .vec 8 (k + 1) ((sixL k).map ptAV ++ [ptAV (sixB (1 + (k : Int)))])]) 3 rfl (Nat.le_of_ble_eq_true rfl) (Nat.le_of_ble_eq_true rfl) ⟨⟨_, rfl, (by first | exact .ylK (Nat.le_of_ble_eq_true rfl) | exact .ptrK (Nat.le_of_ble_eq_true rfl) | exact rs_pur (by simp) rfl)⟩, ⟨_, rfl, (by first | exact .ylK (Nat.le_of_ble_eq_true rfl) | exact .ptrK (Nat.le_of_ble_eq_true rfl) | exact rs_pur (by simp) rfl)⟩, ⟨_, rfl, (by first | exact .ylK (Nat.le_of_ble_eq_true rfl) | exact .ptrK (Nat.le_of_ble_eq_true rfl) | exact rs_pur (by simp) rfl)⟩, trivial⟩ ⟨ors_var ⟨rs_pur (by simp [nilS]) rfl, rs_pur (by simp [nilS]) rfl, rs_pur (by simp [nilS]) rfl, rs_pur (by simp [nilS]) rfl, trivial⟩, ors_var ⟨rs_pur (by simp [nilS]) rfl, rs_pur (by simp [nilS]) rfl, rs_pur (by simp [nilS]) rfl, .sloK (Nat.le_of_ble_eq_true rfl), trivial⟩, ors_vec (by rintro x hx; simp at hx; rcases hx with ⟨a, _, rfl⟩ | rfl <;> simp), trivial⟩ ?_
      refine w_reg (l := r11_4.toList) rfl r11_4_ok ?_
      refine a_op rfl (o_mv rfl) ?_
      refine a_op rfl (o_add rfl rfl (by simp only [klo, khi]; omega)) ?_
      refine a_op rfl (o_as rfl) ?_
      refine a_nil ?_
      refine tq_n ?_
      exact ⟨k + 1, ⟨by omega, by omega⟩, ⟨(by first | exact sub_int rfl (by omega) | rfl), (by first | exact sub_int rfl (by omega) | rfl), (by first | exact sub_int rfl (by omega) | rfl), trivial⟩, by rw [sixL_succ]; simp only [List.map_append, List.map_cons, List.map_nil]; (first | rw [sixPt, if_pos (by omega)] | rw [sixPt, if_neg (by omega)])⟩
  · refine a_nil ?_
    refine tq_n ?_
    refine w_false rfl ?_
    refine awp_exit ?_
    refine tq_x ?_
    refine tq_x ?_
    refine bq_hit ?_
    refine tq_n ?_
    refine awp_seq ?_
    refine w_reg (l := r11_10.toList) rfl r11_10_ok ?_
    refine a_op rfl ((by first | exact o_ldg tg30 tn30 rfl rfl | exact o_ldpg tg30 tn30 rfl rfl rfl rfl)) ?_
    refine a_op0 rfl (o_st (N := 3) tn30 rfl rfl (by first | rfl | (simp [AV.goodPart, AV.good, AV.isCell, fresh, nilS, Value.oneCell']; done)) rfl rfl) ?_
    refine a_nil ?_
    refine tq_n ?_
    refine awp_ret ?_
    refine r_one rfl ⟨c_ag tg30 tn30 rfl rfl, trivial⟩ ?_
    have hk : k = 6 := by omega
    subst hk
    exact rs_agg ⟨rs_pur (by simp [nilS]) rfl, rs_pur (by simp [nilS]) rfl, rs_pur (by simp [nilS]) rfl, rs_slo id rfl (by simp [sixL_len]) (by simp) rfl, trivial⟩

def exPts : List PtR := [⟨11, 1, 5, 12, bs0, bs0, 0, 1⟩, ⟨12, 1, 5, 12, bs0, { data := #[51] }, 0, 2⟩, ⟨13, 1, 0, 0, bs0, bs0, 9, 3⟩]
theorem cel_nilS : Cel nilS := cel_nil

noncomputable def r29_0 : Array Oper := opsAt Tryd.f29 [0]
theorem r29_0_ok : dstOk 6 r29_0.toList = true ∧ r29_0.toList.all (fun o => noDefer o.op) = true := by decide +kernel
noncomputable def r29_1 : Array Oper := opsAt Tryd.f29 [1, 0]
theorem r29_1_ok : dstOk 6 r29_1.toList = true ∧ r29_1.toList.all (fun o => noDefer o.op) = true := by decide +kernel
noncomputable def c29 : Code := (.seq (.region 0 r29_0 false) (.seq (.region 1 r29_1 false) .ret))
theorem body29 : Tryd.f29.body = some c29 := by kernel_rfl
theorem example_ok  : PureCall Tryd.prog GL 29 [] (refAV nilS nilS nilS true exPts) := by
  refine pure_of_body Tryd.func29 body29 (Nat.le_of_ble_eq_true rfl) (by simp) (by simp [refAV, nilS]) ?_
  skip
  unfold c29
  refine awp_seq ?_
  refine w_reg (l := r29_0.toList) rfl r29_0_ok ?_
  refine a_op rfl (o_al (N := 0) tz30 rfl rfl rfl) ?_
  refine a_nil ?_
  refine tq_n ?_
  refine awp_seq ?_
  refine w_reg (l := r29_1.toList) rfl r29_1_ok ?_
  refine a_op rfl (o_bd tz39 rfl tp39 rfl rfl) ?_
  refine a_op rfl (o_bd tz39 rfl tp39 rfl rfl) ?_
  refine a_op rfl (o_bd tz39 rfl tp39 rfl rfl) ?_
  refine a_op rfl (o_bs tE28 (by decide) rfl rfl rfl) ?_
  refine a_op rfl (o_bd tz30 rfl tp30 rfl rfl) ?_
  refine a_op0 rfl (o_st (N := 3) tn30 rfl rfl rfl rfl rfl) ?_
  refine a_nil ?_
  refine tq_n ?_
  refine awp_ret ?_
  refine r_one rfl ⟨c_ag tg30 tn30 rfl rfl, trivial⟩ ?_
  exact rs_pur (by simp [refAV, nilS]) rfl

def lstat (pts : List PtR) (rules : List RuleR) (hol : List Int) (n day : Int) : Int := if wrF hol day ≠ 0 then 9 else stV pts rules hol n day

noncomputable def r14_0 : Array Oper := opsAt Tryd.f14 [0]
theorem r14_0_ok : dstOk 25 r14_0.toList = true ∧ r14_0.toList.all (fun o => noDefer o.op) = true := by decide +kernel
noncomputable def r14_1 : Array Oper := opsAt Tryd.f14 [1, 0]
theorem r14_1_ok : dstOk 25 r14_1.toList = true ∧ r14_1.toList.all (fun o => noDefer o.op) = true := by decide +kernel
noncomputable def r14_2 : Array Oper := opsAt Tryd.f14 [1, 1, 0, 0]
theorem r14_2_ok : dstOk 25 r14_2.toList = true ∧ r14_2.toList.all (fun o => noDefer o.op) = true := by decide +kernel
noncomputable def r14_3 : Array Oper := opsAt Tryd.f14 [1, 1, 0, 1, 0, 0]
theorem r14_3_ok : dstOk 25 r14_3.toList = true ∧ r14_3.toList.all (fun o => noDefer o.op) = true := by decide +kernel
noncomputable def r14_4 : Array Oper := opsAt Tryd.f14 [1, 1, 1, 0]
theorem r14_4_ok : dstOk 25 r14_4.toList = true ∧ r14_4.toList.all (fun o => noDefer o.op) = true := by decide +kernel
noncomputable def c14 : Code := (.seq (.region 0 r14_0 false) (.seq (.region 1 r14_1 false) (.seq (.seq (.region 2 r14_2 false) (.cond (.tmp 23) (.seq (.region 3 r14_3 false) .ret) .skip)) (.seq (.region 4 r14_4 false) .ret))))
theorem body14 : Tryd.f14.body = some c14 := by kernel_rfl
theorem lstat_ok (a1 a2 a3 : AV) (g1 : Cel a1) (g2 : Cel a2) (g3 : Cel a3) (b : Bool) (pts : List PtR) (hl : pts.length ≤ 4611686018427387904) (b1 : Bool) (rules : List RuleR) (hl1 : rules.length ≤ 4611686018427387904) (hx1 : ∀ x ∈ rules, x.ok) (b2 : Bool) (hol : List Int) (hl2 : hol.length ≤ 4611686018427387904) (n day : Int) : PureCall Tryd.prog GL 14 [refAV a1 a2 a3 b pts, .sl 5 b1 (rules.map ruleAV), .sl 1 b2 (hol.map intAV), .raw (.int .i64 n), .raw (.int .i64 day)] (.raw (.int .u8 (lstat pts rules hol n day))) := by
  refine pure_of_body Tryd.func14 body14 (Nat.le_of_ble_eq_true rfl) (by simp [pur_ref g1 g2 g3]) (by simp) ?_
  refine w_keep [(0, refAV a1 a2 a3 b pts), (1, .sl 5 b1 (rules.map ruleAV)), (2, .sl 1 b2 (hol.map intAV)), (3, .raw (.int .i64 n)), (4, .raw (.int .i64 day))] ⟨rfl, rfl, rfl, rfl, rfl, trivial⟩ ?_
  unfold c14
  refine awp_seq ?_
  refine w_reg (l := r14_0.toList) rfl r14_0_ok ?_
  refine a_op rfl (o_box (N := 0) rfl (by first | exact ref_good g1 g2 g3 | rfl) rfl rfl) ?_
  refine a_op rfl (o_as rfl) ?_
  refine a_nil ?_
  refine tq_n ?_
  refine awp_seq ?_
  refine w_reg (l := r14_1.toList) rfl r14_1_ok ?_
  refine a_op rfl ((by first | exact o_ldg tg30 tn30 rfl rfl | exact o_ldpg tg30 tn30 rfl rfl rfl rfl)) ?_
  refine a_op rfl (o_mv rfl) ?_
  refine a_op rfl (o_mv rfl) ?_
  refine a_op rfl (o_mv rfl) ?_
  refine a_op rfl (o_mv rfl) ?_
  refine a_pure rfl rfl rfl cb31 (Status_ok _ _ _ g1 g2 g3 _ _ (by omega) _ _ (by omega) hx1 _ _ (by omega) _ _) ?_
  refine a_op rfl (o_mv rfl) ?_
  refine a_op rfl (o_ex rfl rfl) ?_
  refine a_op rfl (o_ex rfl rfl) ?_
  refine a_op rfl (o_as rfl) ?_
  refine a_op rfl (o_as rfl) ?_
  refine a_nil ?_
  refine tq_n ?_
  refine awp_seq ?_
  refine awp_seq ?_
  refine w_reg (l := r14_2.toList) rfl r14_2_ok ?_
  refine a_op rfl (o_mv rfl) ?_
  refine a_if rfl (o_ne rfl rfl) (fun h1 => ?_) (fun h2 => ?_)
  · refine a_nil ?_
    refine tq_n ?_
    refine w_true rfl ?_
    refine awp_seq ?_
    refine w_reg (l := r14_3.toList) rfl r14_3_ok ?_
    refine a_op rfl (o_as rfl) ?_
    refine a_nil ?_
    refine tq_n ?_
    refine awp_ret ?_
    refine tq_r ?_
    refine r_one rfl ⟨rfl, trivial⟩ ?_
    exact rs_int (by simp only [lstat]; first | rw [if_pos (by assumption)] | rw [if_neg (by assumption)])
  · refine a_nil ?_
    refine tq_n ?_
    refine w_false rfl ?_
    refine awp_skip ?_
    refine tq_n ?_
    refine awp_seq ?_
    refine w_reg (l := r14_4.toList) rfl r14_4_ok ?_
    refine a_op rfl (o_mv rfl) ?_
    refine a_op rfl (o_as rfl) ?_
    refine a_nil ?_
    refine tq_n ?_
    refine awp_ret ?_
    refine r_one rfl ⟨rfl, trivial⟩ ?_
    exact rs_int (by simp only [lstat]; first | rw [if_pos (by assumption)] | rw [if_neg (by assumption)])
noncomputable def r19_0 : Array Oper := opsAt Tryd.f19 [0]
theorem r19_0_ok : dstOk 26 r19_0.toList = true ∧ r19_0.toList.all (fun o => noDefer o.op) = true := by decide +kernel
noncomputable def r19_1 : Array Oper := opsAt Tryd.f19 [1, 0, 0]
theorem r19_1_ok : dstOk 26 r19_1.toList = true ∧ r19_1.toList.all (fun o => noDefer o.op) = true := by decide +kernel
noncomputable def r19_2 : Array Oper := opsAt Tryd.f19 [1, 0, 1, 0, 0]
theorem r19_2_ok : dstOk 26 r19_2.toList = true ∧ r19_2.toList.all (fun o => noDefer o.op) = true := by decide +kernel
noncomputable def r19_3 : Array Oper := opsAt Tryd.f19 [1, 1, 0, 0]
theorem r19_3_ok : dstOk 26 r19_3.toList = true ∧ r19_3.toList.all (fun o => noDefer o.op) = true := by decide +kernel
noncomputable def r19_4 : Array Oper := opsAt Tryd.f19 [1, 1, 0, 1, 0, 0, 0, 0]
theorem r19_4_ok : dstOk 26 r19_4.toList = true ∧ r19_4.toList.all (fun o => noDefer o.op) = true := by decide +kernel
noncomputable def r19_6 : Array Oper := opsAt Tryd.f19 [1, 1, 0, 1, 0, 0, 1, 0, 0, 0]
theorem r19_6_ok : dstOk 26 r19_6.toList = true ∧ r19_6.toList.all (fun o => noDefer o.op) = true := by decide +kernel
noncomputable def r19_7 : Array Oper := opsAt Tryd.f19 [1, 1, 0, 1, 0, 0, 1, 0, 0, 1, 0, 0]
theorem r19_7_ok : dstOk 26 r19_7.toList = true ∧ r19_7.toList.all (fun o => noDefer o.op) = true := by decide +kernel
noncomputable def r19_5 : Array Oper := opsAt Tryd.f19 [1, 1, 0, 1, 0, 0, 1, 1]
theorem r19_5_ok : dstOk 26 r19_5.toList = true ∧ r19_5.toList.all (fun o => noDefer o.op) = true := by decide +kernel
noncomputable def b19_0 : Code := (.seq (.seq (.region 4 r19_4 false) (.cond (.tmp 14) .skip (.exit 0))) (.seq (.block 1 (.seq (.region 6 r19_6 true) (.cond (.tmp 25) (.seq (.region 7 r19_7 false) .ret) .skip))) (.region 5 r19_5 false)))
noncomputable def r19_8 : Array Oper := opsAt Tryd.f19 [1, 1, 1, 0]
theorem r19_8_ok : dstOk 26 r19_8.toList = true ∧ r19_8.toList.all (fun o => noDefer o.op) = true := by decide +kernel
noncomputable def c19 : Code := (.seq (.region 0 r19_0 false) (.seq (.seq (.region 1 r19_1 false) (.cond (.tmp 10) (.seq (.region 2 r19_2 false) .ret) .skip)) (.seq (.seq (.region 3 r19_3 false) (.block 0 (.loop b19_0))) (.seq (.region 8 r19_8 false) .ret))))
theorem body19 : Tryd.f19.body = some c19 := by kernel_rfl
theorem sameInts_ok (b : Bool) (xs : List Int) (hl : xs.length ≤ 4611686018427387904) (b2 : Bool) (ys : List Int) (hl2 : ys.length ≤ 4611686018427387904) : PureCall Tryd.prog GL 19 [.sl 1 b (xs.map intAV), .sl 1 b2 (ys.map intAV)] (.raw (.bool (decide (xs = ys)))) := by
  refine pure_of_body Tryd.func19 body19 (Nat.le_of_ble_eq_true rfl) (by simp) (by simp) ?_
  refine w_keep [(0, .sl 1 b (xs.map intAV)), (1, .sl 1 b2 (ys.map intAV))] ⟨rfl, rfl, trivial⟩ ?_
  unfold c19
  refine awp_seq ?_
  refine w_reg (l := r19_0.toList) rfl r19_0_ok ?_
  refine a_op rfl (o_as rfl) ?_
  refine a_nil ?_
  refine tq_n ?_
  refine awp_seq ?_
  refine awp_seq ?_
  refine w_reg (l := r19_1.toList) rfl r19_1_ok ?_
  refine a_op rfl (o_mv rfl) ?_
  refine a_op rfl (o_len rfl rfl (by first | exact List.length_map .. | rfl) tl34) ?_
  refine a_op rfl (o_mv rfl) ?_
  refine a_op rfl (o_len rfl rfl (by first | exact List.length_map .. | rfl) tl34) ?_
  refine a_if rfl (o_ne rfl rfl) (fun h1 => ?_) (fun h2 => ?_)
  · refine a_nil ?_
    refine tq_n ?_
    refine w_true rfl ?_
    refine awp_seq ?_
    refine w_reg (l := r19_2.toList) rfl r19_2_ok ?_
    refine a_op rfl (o_as rfl) ?_
    refine a_nil ?_
    refine tq_n ?_
    refine awp_ret ?_
    refine tq_r ?_
    refine r_one rfl ⟨rfl, trivial⟩ ?_
    exact rs_pur (by simp) (by simp; intro h; subst h; omega)
  · refine a_nil ?_
    refine tq_n ?_
    refine w_false rfl ?_
    refine awp_skip ?_
    refine tq_n ?_
    refine awp_seq ?_
    refine awp_seq ?_
    have hlen : xs.length = ys.length := by omega
    refine w_reg (l := r19_3.toList) rfl r19_3_ok ?_
    refine a_op rfl (o_as rfl) ?_
    refine a_nil ?_
    refine tq_n ?_
    refine awp_block ?_
    refine w_loop (fun i : Nat => i ≤ xs.length ∧ xs.take i = ys.take i) (fun i => [(0, .sl 1 b (xs.map intAV)), (1, .sl 1 b2 (ys.map intAV)), (5, .raw (.int .i64 (i : Int)))]) (fun _ => []) (fun i => xs.length - i) (0) ⟨by simp, by simp⟩ ⟨(by first | exact sub_int rfl (by omega) | rfl), (by first | exact sub_int rfl (by omega) | rfl), (by first | exact sub_int rfl (by omega) | rfl), trivial⟩ rfl ?_
    intro i ⟨hp1, hp2⟩
    unfold b19_0
    refine awp_seq ?_
    refine awp_seq ?_
    refine w_reg (l := r19_4.toList) rfl r19_4_ok ?_
    refine a_op rfl (o_mv rfl) ?_
    refine a_op rfl (o_mv rfl) ?_
    refine a_op rfl (o_len rfl rfl (by first | exact List.length_map .. | rfl) tl34) ?_
    refine a_if rfl (o_lt rfl rfl) (fun h3 => ?_) (fun h4 => ?_)
    · refine a_nil ?_
      refine tq_n ?_
      refine w_true rfl ?_
      refine awp_skip ?_
      refine tq_n ?_
      refine awp_seq ?_
      refine awp_block ?_
      refine awp_seq ?_
      have hb1 : i < xs.length := by omega
      have hb2 : i < ys.length := by omega
      refine awp_draw ⟨[[], [], [0, 1], [0, 1, 2], [], [], [4, 5], [4, 5, 6], [0, 1, 2, 3, 4, 5, 6, 7]], [[0], [5], [17, 18], [19], [1], [5], [21, 22], [23], [20, 24]], [[], [], [], [], [], [], [], [], []], [none, none, none, none, none, none, none, none, none]⟩ mo r19_6_ok (by decide +kernel) (l := r19_6.toList) rfl ?_
      refine d_op rfl rfl rfl (fun _ => o_mv rfl) ?_
      refine d_op rfl rfl rfl (fun _ => o_mv rfl) ?_
      refine d_op rfl rfl rfl (fun _ => o_ix te34 tn3 rfl rfl rfl (ixm _ _ _ hb1)) ?_
      refine d_op rfl rfl rfl (fun _ => (by first | exact o_ld tg3 rfl rfl | exact o_ldp tg3 rfl rfl rfl rfl)) ?_
      refine d_op rfl rfl rfl (fun _ => o_mv rfl) ?_
      refine d_op rfl rfl rfl (fun _ => o_mv rfl) ?_
      refine d_op rfl rfl rfl (fun _ => o_ix te34 tn3 rfl rfl rfl (ixm _ _ _ hb2)) ?_
      refine d_op rfl rfl rfl (fun _ => (by first | exact o_ld tg3 rfl rfl | exact o_ldp tg3 rfl rfl rfl rfl)) ?_
      refine d_if rfl rfl rfl (fun _ => o_ne rfl rfl) (fun h5 => ?_) (fun h6 => ?_)
      · refine d_nil ?_
        refine tq_n ?_
        refine w_true rfl ?_
        refine awp_seq ?_
        refine w_reg (l := r19_7.toList) rfl r19_7_ok ?_
        refine a_op rfl (o_as rfl) ?_
        refine a_nil ?_
        refine tq_n ?_
        refine awp_ret ?_
        refine bq_r ?_
        refine tq_r ?_
        refine tq_r ?_
        refine bq_r ?_
        refine tq_r ?_
        refine r_one rfl ⟨rfl, trivial⟩ ?_
        exact rs_pur (by simp) (by simp; intro h; subst h; simp_all)
      · refine d_nil ?_
        refine tq_n ?_
        refine w_false rfl ?_
        refine awp_skip ?_
        refine bq_n ?_
        refine tq_n ?_
        refine w_reg (l := r19_5.toList) rfl r19_5_ok ?_
        refine a_op rfl (o_mv rfl) ?_
        refine a_op rfl (o_add rfl rfl (by simp only [klo, khi]; omega)) ?_
        refine a_op rfl (o_as rfl) ?_
        refine a_nil ?_
        refine tq_n ?_
        exact ⟨i + 1, ⟨⟨by omega, by rw [List.take_succ_eq_append_getElem hb1, List.take_succ_eq_append_getElem hb2, hp2, show xs[i] = ys[i] by omega]⟩, by omega⟩, ⟨(by first | exact sub_int rfl (by omega) | rfl), (by first | exact sub_int rfl (by omega) | rfl), (by first | exact sub_int rfl (by omega) | rfl), trivial⟩, rfl⟩
    · refine a_nil ?_
      refine tq_n ?_
      refine w_false rfl ?_
      refine awp_exit ?_
      refine tq_x ?_
      refine tq_x ?_
      refine bq_hit ?_
      refine tq_n ?_
      refine awp_seq ?_
      refine w_reg (l := r19_8.toList) rfl r19_8_ok ?_
      refine a_op rfl (o_as rfl) ?_
      refine a_nil ?_
      refine tq_n ?_
      refine awp_ret ?_
      refine r_one rfl ⟨rfl, trivial⟩ ?_
      exact rs_pur (by simp) (by simp; rw [← List.take_of_length_le (show xs.length ≤ i by omega), hp2, List.take_of_length_le (by omega)])
end Go.Ab.D
