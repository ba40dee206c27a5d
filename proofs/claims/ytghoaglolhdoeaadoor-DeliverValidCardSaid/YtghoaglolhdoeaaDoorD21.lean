/- What functions of this program compute, and the laws of what they compute, under the bounds on lengths that each contract states. -/
import Derived.Test.YtghoaglolhdoeaaDoorD20
import Derived.Test.YtghoaglolhdoeaaDoorD10
set_option linter.unusedSimpArgs false
set_option linter.unusedVariables false
namespace Go.Ab.D
open Go Go.Ab Go.Proofs
theorem and_pow : ∀ (m : Fin 256) (w : Fin 7), IntKind.u8.wrap (BitVec.ofInt IntKind.u8.bits (m.val : Int) &&& BitVec.ofInt IntKind.u8.bits (2 ^ w.val)).toNat = 2 ^ w.val * ((m.val : Int) / 2 ^ w.val % 2) := by decide +kernel
def andP (m : Int) (w : Nat) : Int := 2 ^ w * (m / 2 ^ w % 2)
theorem o_andp {P : Program} {F : Frm} {H : Heap} {x y : Operand} {t t' : TypeId} {m : Int} {w : Nat} (hx : evx F x = some (.raw (.int .u8 m))) (hy : evx F y = some (.raw (.int .u8 (2 ^ w)))) (h0 : 0 ≤ m) (h1 : m ≤ 255) (hw : w < 7) : OpOk P (.binOp .and t x y t') F H (.raw (.int .u8 (andP m w))) H :=
  o_bin hx hy (by
    obtain ⟨n, rfl⟩ : ∃ n : Nat, m = n := ⟨m.toNat, by omega⟩
    have := and_pow ⟨n, by omega⟩ ⟨w, hw⟩
    simp only at this
    simp only [rawBin, if_pos, this, andP])
theorem andP_ne {m : Int} {w : Nat} (hw : w < 7) : andP m w ≠ 0 ↔ m / 2 ^ w % 2 = 1 := by
  unfold andP
  match w, hw with
  | 0, _ | 1, _ | 2, _ | 3, _ | 4, _ | 5, _ | 6, _ => simp; omega
theorem pow_bd {i : Nat} (h : i < 7) : (1 : Int) ≤ 2 ^ i ∧ (2 : Int) ^ i ≤ 64 := by
  match i, h with
  | 0, _ | 1, _ | 2, _ | 3, _ | 4, _ | 5, _ | 6, _ => decide
theorem wk_lt (day : Int) : 0 ≤ wk day ∧ wk day < 7 := by unfold wk; split <;> omega

noncomputable def r46_0 : Array Oper := opsAt Tryd.f46 [0]
theorem r46_0_ok : dstOk 60 r46_0.toList = true ∧ r46_0.toList.all (fun o => noDefer o.op) = true := by decide +kernel
noncomputable def r46_1 : Array Oper := opsAt Tryd.f46 [1, 0]
theorem r46_1_ok : dstOk 60 r46_1.toList = true ∧ r46_1.toList.all (fun o => noDefer o.op) = true := by decide +kernel
noncomputable def r46_2 : Array Oper := opsAt Tryd.f46 [1, 1, 0, 0]
theorem r46_2_ok : dstOk 60 r46_2.toList = true ∧ r46_2.toList.all (fun o => noDefer o.op) = true := by decide +kernel
noncomputable def r46_3 : Array Oper := opsAt Tryd.f46 [1, 1, 0, 1, 0, 0]
theorem r46_3_ok : dstOk 60 r46_3.toList = true ∧ r46_3.toList.all (fun o => noDefer o.op) = true := by decide +kernel
noncomputable def r46_4 : Array Oper := opsAt Tryd.f46 [1, 1, 1, 0, 0]
theorem r46_4_ok : dstOk 60 r46_4.toList = true ∧ r46_4.toList.all (fun o => noDefer o.op) = true := by decide +kernel
noncomputable def r46_5 : Array Oper := opsAt Tryd.f46 [1, 1, 1, 0, 1, 0, 0]
theorem r46_5_ok : dstOk 60 r46_5.toList = true ∧ r46_5.toList.all (fun o => noDefer o.op) = true := by decide +kernel
noncomputable def r46_6 : Array Oper := opsAt Tryd.f46 [1, 1, 1, 1, 0]
theorem r46_6_ok : dstOk 60 r46_6.toList = true ∧ r46_6.toList.all (fun o => noDefer o.op) = true := by decide +kernel
noncomputable def r46_7 : Array Oper := opsAt Tryd.f46 [1, 1, 1, 1, 1, 0, 0]
theorem r46_7_ok : dstOk 60 r46_7.toList = true ∧ r46_7.toList.all (fun o => noDefer o.op) = true := by decide +kernel
noncomputable def r46_8 : Array Oper := opsAt Tryd.f46 [1, 1, 1, 1, 1, 0, 1, 0, 0]
theorem r46_8_ok : dstOk 60 r46_8.toList = true ∧ r46_8.toList.all (fun o => noDefer o.op) = true := by decide +kernel
noncomputable def r46_9 : Array Oper := opsAt Tryd.f46 [1, 1, 1, 1, 1, 1, 0]
theorem r46_9_ok : dstOk 60 r46_9.toList = true ∧ r46_9.toList.all (fun o => noDefer o.op) = true := by decide +kernel
noncomputable def c46 : Code := (.seq (.region 0 r46_0 false) (.seq (.region 1 r46_1 false) (.seq (.seq (.region 2 r46_2 false) (.cond (.tmp 21) (.seq (.region 3 r46_3 false) .ret) .skip)) (.seq (.seq (.region 4 r46_4 false) (.cond (.tmp 36) (.seq (.region 5 r46_5 false) .ret) .skip)) (.seq (.region 6 r46_6 false) (.seq (.seq (.region 7 r46_7 false) (.cond (.tmp 43) (.seq (.region 8 r46_8 false) .ret) .skip)) (.seq (.region 9 r46_9 false) .ret)))))))
theorem body46 : Tryd.f46.body = some c46 := by kernel_rfl
theorem ryearly_ok (day frm to : Int) (hf : -9223372036854775808 ≤ frm ∧ frm ≤ 9223372036854775807) (ht : -9223372036854775808 ≤ to ∧ to ≤ 9223372036854775807) : PureCall Tryd.prog GL 46 [.raw (.int .i64 day), .raw (.int .i64 frm), .raw (.int .i64 to)] (.tup [.raw (.bool (yrB day frm to)), .raw (.int .i64 (yrE day frm to))]) := by
  refine pure_of_body Tryd.func46 body46 (Nat.le_of_ble_eq_true rfl) (by simp) (by simp) ?_
  refine w_keep [(0, .raw (.int .i64 day)), (1, .raw (.int .i64 frm)), (2, .raw (.int .i64 to))] ⟨rfl, rfl, rfl, trivial⟩ ?_
  unfold c46
  have hw := wi_iff day 730484; have hdb := date_bd day
  refine awp_seq ?_
  refine w_reg (l := r46_0.toList) rfl r46_0_ok ?_
  refine a_op rfl (o_as rfl) ?_
  refine a_op rfl (o_as rfl) ?_
  refine a_nil ?_
  refine tq_n ?_
  refine awp_seq ?_
  refine w_reg (l := r46_1.toList) rfl r46_1_ok ?_
  refine a_op rfl (o_mv rfl) ?_
  refine a_pure rfl rfl rfl cb75 (rDate_ok _) ?_
  refine a_op rfl (o_mv rfl) ?_
  refine a_op rfl (o_ex rfl rfl) ?_
  refine a_op rfl (o_ex rfl rfl) ?_
  refine a_op rfl (o_ex rfl rfl) ?_
  refine a_op rfl (o_ex rfl rfl) ?_
  refine a_op rfl (o_as rfl) ?_
  refine a_op rfl (o_as rfl) ?_
  refine a_op rfl (o_as rfl) ?_
  refine a_op rfl (o_as rfl) ?_
  refine a_nil ?_
  refine tq_n ?_
  refine awp_seq ?_
  refine awp_seq ?_
  refine w_reg (l := r46_2.toList) rfl r46_2_ok ?_
  refine a_op rfl (o_mv rfl) ?_
  refine a_if rfl (o_ne rfl rfl) (fun h1 => ?_) (fun h2 => ?_)
  · refine a_nil ?_
    refine tq_n ?_
    refine w_true rfl ?_
    refine awp_seq ?_
    refine w_reg (l := r46_3.toList) rfl r46_3_ok ?_
    refine a_op rfl (o_mv rfl) ?_
    refine a_op rfl (o_as rfl) ?_
    refine a_op rfl (o_as rfl) ?_
    refine a_nil ?_
    refine tq_n ?_
    refine awp_ret ?_
    refine tq_r ?_
    refine r_tup (xs := []) rfl ⟨rfl, rfl, trivial⟩ ?_
    clear hw hdb
    exact rs_tup ⟨rs_dec (by simp [yrE, now, *] <;> omega), rs_int (by simp [yrE, *]), trivial⟩
  refine a_nil ?_
  refine tq_n ?_
  refine w_false rfl ?_
  refine awp_skip ?_
  refine tq_n ?_
  refine awp_seq ?_
  refine awp_seq ?_
  refine w_reg (l := r46_4.toList) rfl r46_4_ok ?_
  refine a_op rfl (o_mv rfl) ?_
  refine a_op rfl (o_quot rfl rfl (by omega) (by simp only [klo, khi]; omega)) ?_
  refine a_op rfl (o_mv rfl) ?_
  refine a_op rfl (o_remt rfl rfl (by omega)) ?_
  refine a_pureb rfl rfl rfl cb76 (rdate_ok _ _ _) (fun h3 => ?_) (fun h4 => ?_)
  · refine a_op rfl (o_ntt rfl) ?_
    refine a_op rfl (o_mv rfl) ?_
    refine a_op rfl (o_mv rfl) ?_
    refine a_op rfl (o_quot rfl rfl (by omega) (by simp only [klo, khi]; omega)) ?_
    refine a_op rfl (o_mv rfl) ?_
    refine a_op rfl (o_remt rfl rfl (by omega)) ?_
    refine a_pureb rfl rfl rfl cb76 (rdate_ok _ _ _) (fun h5 => ?_) (fun h6 => ?_)
    · refine a_op rfl (o_ntt rfl) ?_
      refine a_op rfl (o_pkf rfl rfl) ?_
      refine a_nil ?_
      refine tq_n ?_
      refine w_false rfl ?_
      refine awp_skip ?_
      refine tq_n ?_
      refine awp_seq ?_
      refine w_reg (l := r46_6.toList) rfl r46_6_ok ?_
      refine a_op rfl (o_mv rfl) ?_
      refine a_op rfl (o_mul rfl rfl (by simp only [klo, khi]; omega)) ?_
      refine a_op rfl (o_mv rfl) ?_
      refine a_op rfl (o_add rfl rfl (by simp only [klo, khi]; omega)) ?_
      refine a_op rfl (o_as rfl) ?_
      refine a_nil ?_
      refine tq_n ?_
      refine awp_seq ?_
      refine awp_seq ?_
      refine w_reg (l := r46_7.toList) rfl r46_7_ok ?_
      refine a_op rfl (o_mv rfl) ?_
      refine a_op rfl (o_mv rfl) ?_
      refine a_if rfl (o_le rfl rfl) (fun h7 => ?_) (fun h8 => ?_)
      · refine a_nil ?_
        refine tq_n ?_
        refine w_true rfl ?_
        refine awp_seq ?_
        refine w_reg (l := r46_8.toList) rfl r46_8_ok ?_
        refine a_op rfl (o_mv rfl) ?_
        refine a_op rfl (o_mv rfl) ?_
        refine a_if rfl (o_ge rfl rfl) (fun h9 => ?_) (fun h10 => ?_)
        · refine a_op rfl (o_mv rfl) ?_
          refine a_op rfl (o_mv rfl) ?_
          refine a_op rfl (o_mv rfl) ?_
          refine a_op rfl (o_le rfl rfl) ?_
          refine a_op rfl (o_pkt rfl rfl) ?_
          refine a_op rfl (o_as rfl) ?_
          refine a_op rfl (o_as rfl) ?_
          refine a_nil ?_
          refine tq_n ?_
          refine awp_ret ?_
          refine tq_r ?_
          refine r_tup (xs := []) rfl ⟨rfl, rfl, trivial⟩ ?_
          clear hw hdb
          exact rs_tup ⟨rs_dec (by simp [yrE, now, *] <;> omega), rs_int (by simp [yrE, *]), trivial⟩
        refine a_op rfl (o_mv rfl) ?_
        refine a_off rfl ?_
        refine a_off rfl ?_
        refine a_off rfl ?_
        refine a_op rfl (o_pkf rfl rfl) ?_
        refine a_op rfl (o_as rfl) ?_
        refine a_op rfl (o_as rfl) ?_
        refine a_nil ?_
        refine tq_n ?_
        refine awp_ret ?_
        refine tq_r ?_
        refine r_tup (xs := []) rfl ⟨rfl, rfl, trivial⟩ ?_
        clear hw hdb
        exact rs_tup ⟨rs_dec (by simp [yrE, now, *] <;> omega), rs_int (by simp [yrE, *]), trivial⟩
      refine a_nil ?_
      refine tq_n ?_
      refine w_false rfl ?_
      refine awp_skip ?_
      refine tq_n ?_
      refine awp_seq ?_
      refine w_reg (l := r46_9.toList) rfl r46_9_ok ?_
      refine a_op rfl (o_mv rfl) ?_
      refine a_op rfl (o_mv rfl) ?_
      refine a_if rfl (o_ge rfl rfl) (fun h11 => ?_) (fun h12 => ?_)
      · refine a_op rfl (o_mv rfl) ?_
        refine a_off rfl ?_
        refine a_off rfl ?_
        refine a_off rfl ?_
        refine a_op rfl (o_pkt rfl rfl) ?_
        refine a_op rfl (o_as rfl) ?_
        refine a_op rfl (o_as rfl) ?_
        refine a_nil ?_
        refine tq_n ?_
        refine awp_ret ?_
        refine r_tup (xs := []) rfl ⟨rfl, rfl, trivial⟩ ?_
        clear hw hdb
        exact rs_tup ⟨rs_dec (by simp [yrE, now, *] <;> omega), rs_int (by simp [yrE, *]), trivial⟩
      refine a_op rfl (o_mv rfl) ?_
      refine a_op rfl (o_mv rfl) ?_
      refine a_op rfl (o_mv rfl) ?_
      refine a_op rfl (o_le rfl rfl) ?_
      refine a_op rfl (o_pkf rfl rfl) ?_
      refine a_op rfl (o_as rfl) ?_
      refine a_op rfl (o_as rfl) ?_
      refine a_nil ?_
      refine tq_n ?_
      refine awp_ret ?_
      refine r_tup (xs := []) rfl ⟨rfl, rfl, trivial⟩ ?_
      clear hw hdb
      exact rs_tup ⟨rs_dec (by simp [yrE, now, *] <;> omega), rs_int (by simp [yrE, *]), trivial⟩
    refine a_op rfl (o_ntf rfl) ?_
    refine a_op rfl (o_pkf rfl rfl) ?_
    refine a_nil ?_
    refine tq_n ?_
    refine w_true rfl ?_
    refine awp_seq ?_
    refine w_reg (l := r46_5.toList) rfl r46_5_ok ?_
    refine a_op rfl (o_as rfl) ?_
    refine a_op rfl (o_as rfl) ?_
    refine a_nil ?_
    refine tq_n ?_
    refine awp_ret ?_
    refine tq_r ?_
    refine r_tup (xs := []) rfl ⟨rfl, rfl, trivial⟩ ?_
    clear hw hdb
    exact rs_tup ⟨rs_dec (by simp [yrE, now, *] <;> omega), rs_int (by simp [yrE, *]), trivial⟩
  refine a_op rfl (o_ntf rfl) ?_
  refine a_op rfl (o_mv rfl) ?_
  refine a_off rfl ?_
  refine a_off rfl ?_
  refine a_off rfl ?_
  refine a_off rfl ?_
  refine a_off rfl ?_
  refine a_off rfl ?_
  refine a_op rfl (o_pkt rfl rfl) ?_
  refine a_nil ?_
  refine tq_n ?_
  refine w_true rfl ?_
  refine awp_seq ?_
  refine w_reg (l := r46_5.toList) rfl r46_5_ok ?_
  refine a_op rfl (o_as rfl) ?_
  refine a_op rfl (o_as rfl) ?_
  refine a_nil ?_
  refine tq_n ?_
  refine awp_ret ?_
  refine tq_r ?_
  refine r_tup (xs := []) rfl ⟨rfl, rfl, trivial⟩ ?_
  clear hw hdb
  exact rs_tup ⟨rs_dec (by simp [yrE, now, *] <;> omega), rs_int (by simp [yrE, *]), trivial⟩
noncomputable def r107_0 : Array Oper := opsAt Tryd.f107 [0]
theorem r107_0_ok : dstOk 41 r107_0.toList = true ∧ r107_0.toList.all (fun o => noDefer o.op) = true := by decide +kernel
noncomputable def r107_1 : Array Oper := opsAt Tryd.f107 [1, 0, 0]
theorem r107_1_ok : dstOk 41 r107_1.toList = true ∧ r107_1.toList.all (fun o => noDefer o.op) = true := by decide +kernel
noncomputable def r107_2 : Array Oper := opsAt Tryd.f107 [1, 0, 1, 0, 0, 0, 0]
theorem r107_2_ok : dstOk 41 r107_2.toList = true ∧ r107_2.toList.all (fun o => noDefer o.op) = true := by decide +kernel
noncomputable def r107_4 : Array Oper := opsAt Tryd.f107 [1, 0, 1, 0, 0, 1, 0, 0, 0]
theorem r107_4_ok : dstOk 41 r107_4.toList = true ∧ r107_4.toList.all (fun o => noDefer o.op) = true := by decide +kernel
noncomputable def r107_5 : Array Oper := opsAt Tryd.f107 [1, 0, 1, 0, 0, 1, 0, 0, 1, 0, 0]
theorem r107_5_ok : dstOk 41 r107_5.toList = true ∧ r107_5.toList.all (fun o => noDefer o.op) = true := by decide +kernel
noncomputable def r107_3 : Array Oper := opsAt Tryd.f107 [1, 0, 1, 0, 0, 1, 1]
theorem r107_3_ok : dstOk 41 r107_3.toList = true ∧ r107_3.toList.all (fun o => noDefer o.op) = true := by decide +kernel
noncomputable def b107_0 : Code := (.seq (.seq (.region 2 r107_2 false) (.cond (.tmp 7) .skip (.exit 0))) (.seq (.block 1 (.seq (.region 4 r107_4 true) (.cond (.tmp 37) (.seq (.region 5 r107_5 false) .ret) .skip))) (.region 3 r107_3 false)))
noncomputable def r107_6 : Array Oper := opsAt Tryd.f107 [1, 1, 0]
theorem r107_6_ok : dstOk 41 r107_6.toList = true ∧ r107_6.toList.all (fun o => noDefer o.op) = true := by decide +kernel
noncomputable def c107 : Code := (.seq (.region 0 r107_0 false) (.seq (.seq (.region 1 r107_1 false) (.block 0 (.loop b107_0))) (.seq (.region 6 r107_6 false) .ret)))
theorem body107 : Tryd.f107.body = some c107 := by kernel_rfl
theorem rright_ok (b : Bool) (hs : List Int) (hl : hs.length ≤ 4611686018427387904) : PureCall Tryd.prog GL 107 [.sl 1 b (hs.map intAV)] (.raw (.bool (rightF hs))) := by
  refine pure_of_body Tryd.func107 body107 (Nat.le_of_ble_eq_true rfl) (by simp) (by simp) ?_
  refine w_keep [(0, .sl 1 b (hs.map intAV))] ⟨rfl, trivial⟩ ?_
  unfold c107
  refine awp_seq ?_
  refine w_reg (l := r107_0.toList) rfl r107_0_ok ?_
  refine a_op rfl (o_as rfl) ?_
  refine a_nil ?_
  refine tq_n ?_
  refine awp_seq ?_
  refine awp_seq ?_
  refine w_reg (l := r107_1.toList) rfl r107_1_ok ?_
  refine a_op rfl (o_as rfl) ?_
  refine a_nil ?_
  refine tq_n ?_
  refine awp_block ?_
  refine w_loop (fun s : Nat × Int => (s.1 ≤ hs.length ∧ incr (-1) hs = incr s.2 (hs.drop s.1)) ∧ -1 ≤ s.2 ∧ ((h : s.1 - 1 < hs.length) → 0 < s.1 → s.2 = hs[s.1 - 1]) ∧ (s.1 = 0 → s.2 = -1)) (fun s => [(0, .sl 1 b (hs.map intAV)), (3, .raw (.int .i64 (s.1 : Int)))]) (fun _ => []) (fun s => hs.length - s.1) ((0, -1)) ⟨⟨by simp, by simp⟩, by dsimp only; omega, fun _ h => by dsimp only at h; omega, fun _ => rfl⟩ ⟨(by first | exact sub_int rfl (by omega) | rfl), (by first | exact sub_int rfl (by omega) | rfl), trivial⟩ rfl ?_
  intro ⟨i, last⟩ ⟨⟨hp1, hp2⟩, hp3, hp4, hp5⟩
  dsimp only at hp1 hp2 hp3 hp4 hp5 ⊢
  unfold b107_0
  refine awp_seq ?_
  refine awp_seq ?_
  refine w_reg (l := r107_2.toList) rfl r107_2_ok ?_
  refine a_op rfl (o_mv rfl) ?_
  refine a_op rfl (o_mv rfl) ?_
  refine a_op rfl (o_len rfl rfl (by first | exact List.length_map .. | rfl) tl34) ?_
  refine a_if rfl (o_lt rfl rfl) (fun h1 => ?_) (fun h2 => ?_)
  · refine a_nil ?_
    refine tq_n ?_
    refine w_true rfl ?_
    refine awp_skip ?_
    refine tq_n ?_
    refine awp_seq ?_
    refine awp_block ?_
    refine awp_seq ?_
    have hI : i < hs.length := by omega
    refine awp_draw ⟨[[], [], [0, 1], [0, 1, 2], [0, 1, 2, 3], [0, 1, 2, 3, 4], [0, 1, 2, 3, 4, 5], [0, 1, 2, 3, 4, 5], [0, 1, 2, 3, 4, 5, 6, 7], [0, 1, 2, 3, 4, 5, 6, 7, 8], [0, 1, 2, 3, 4, 5, 6, 7, 8, 9], [0, 1, 2, 3, 4, 5, 6, 7, 8, 9, 10], [0, 1, 2, 3, 4, 5, 6, 7, 8, 9, 10, 11], [0, 1, 2, 3, 4, 5, 6, 7, 8, 9, 10, 11, 12], [0, 1, 2, 3, 4, 5, 6, 7, 8, 9, 10, 11, 12, 13], [0, 1, 2, 3, 4, 5, 6, 7, 8, 9, 10, 11, 12, 13, 14], [0, 1, 2, 3, 4, 5, 6, 7, 8, 9, 10, 11, 12, 13, 14, 15], [0, 1, 2, 3, 4, 5, 6, 7, 8, 9, 10, 11, 12, 13, 14, 15], [0, 1, 2, 3, 4, 5, 6, 7, 8, 9, 10, 11, 12, 13, 14, 15, 17], [0, 1, 2, 3, 4, 5, 6, 7, 8, 9, 10, 11, 12, 13, 14, 15, 16, 17, 18], [0, 1, 2, 3, 4, 5, 6, 7, 8, 9, 10, 11, 12, 13, 14, 15, 16, 17, 18, 19], [0, 1, 2, 3, 4, 5, 6, 7, 8, 9, 10, 11, 12, 13, 14, 15], [0, 1, 2, 3, 4, 5, 6, 7, 8, 9, 10, 11, 12, 13, 14, 15], [0, 1, 2, 3, 4, 5, 6, 7, 8, 9, 10, 11, 12, 13, 14, 15, 21, 22], [0, 1, 2, 3, 4, 5, 6, 7, 8, 9, 10, 11, 12, 13, 14, 15, 21, 22, 23], [0, 1, 2, 3, 4, 5, 6, 7, 8, 9, 10, 11, 12, 13, 14, 15, 16, 17, 18, 19, 20, 21, 22, 23, 24], [0, 1, 2, 3, 4, 5, 6, 7, 8, 9, 10, 11, 12, 13, 14, 15, 16, 17, 18, 19, 20, 21, 22, 23, 24, 25], [0, 1, 2, 3, 4, 5, 6, 7, 8, 9, 10, 11, 12, 13, 14, 15, 16, 17, 18, 19, 20, 21, 22, 23, 24, 25, 26]], [[0], [3], [10, 11], [12], [13], [14], [0, 15], [3, 15], [15, 16, 17], [15, 18], [15, 19], [15, 20], [21], [3, 22], [22, 23], [22, 24], [0, 25], [3, 25], [25, 27], [25, 26, 28], [25, 29], [0, 25], [3, 25], [25, 31, 32], [25, 33], [25, 30, 34], [22, 25, 35], [22, 36]], [[], [], [], [], [], [], [], [], [], [], [], [], [], [], [], [], [], [], [], [], [], [], [], [], [], [], [], []], [none, none, none, none, none, none, none, none, none, none, none, none, none, none, none, none, none, none, none, none, none, none, none, none, none, none, none, none]⟩ mo r107_4_ok (by decide +kernel) (l := r107_4.toList) rfl ?_
    refine d_op rfl rfl rfl (fun _ => o_mv rfl) ?_
    refine d_op rfl rfl rfl (fun _ => o_mv rfl) ?_
    refine d_op rfl rfl rfl (fun _ => o_ix te34 tn3 rfl rfl rfl (ixm _ _ _ hI)) ?_
    refine d_op rfl rfl rfl (fun _ => (by first | exact o_ld tg3 rfl rfl | exact o_ldp tg3 rfl rfl rfl rfl)) ?_
    refine d_if rfl rfl rfl (fun _ => o_lt rfl rfl) (fun h3 => ?_) (fun h4 => ?_)
    · refine d_op rfl rfl rfl (fun _ => o_mv rfl) ?_
      refine d_off rfl rfl ?_
      refine d_off rfl rfl ?_
      refine d_off rfl rfl ?_
      refine d_off rfl rfl ?_
      refine d_off rfl rfl ?_
      refine d_op rfl rfl rfl (fun _ => o_pkt rfl rfl) ?_
      refine d_op rfl rfl rfl (fun _ => o_mv rfl) ?_
      refine d_off rfl rfl ?_
      refine d_off rfl rfl ?_
      refine d_off rfl rfl ?_
      refine d_off rfl rfl ?_
      refine d_off rfl rfl ?_
      refine d_off rfl rfl ?_
      refine d_off rfl rfl ?_
      refine d_off rfl rfl ?_
      refine d_off rfl rfl ?_
      refine d_off rfl rfl ?_
      refine d_off rfl rfl ?_
      refine d_off rfl rfl ?_
      refine d_off rfl rfl ?_
      refine d_off rfl rfl ?_
      refine d_op rfl rfl rfl (fun _ => o_pkt rfl rfl) ?_
      refine d_nil ?_
      refine tq_n ?_
      refine w_true rfl ?_
      refine awp_seq ?_
      refine w_reg (l := r107_5.toList) rfl r107_5_ok ?_
      refine a_op rfl (o_as rfl) ?_
      refine a_nil ?_
      refine tq_n ?_
      refine awp_ret ?_
      refine bq_r ?_
      refine tq_r ?_
      refine tq_r ?_
      refine bq_r ?_
      refine tq_r ?_
      refine r_one rfl ⟨rfl, trivial⟩ ?_
      exact rs_pur (by simp) (by simp [rightF, hp2, incr_stop (hs := hs) (i := i) (last := last) hI (by omega)])
    refine d_op rfl rfl rfl (fun _ => o_mv rfl) ?_
    refine d_op rfl rfl rfl (fun _ => o_mv rfl) ?_
    refine d_op rfl rfl rfl (fun _ => o_mv rfl) ?_
    refine d_op rfl rfl rfl (fun _ => o_ix te34 tn3 rfl rfl rfl (ixm _ _ _ hI)) ?_
    refine d_op rfl rfl rfl (fun _ => (by first | exact o_ld tg3 rfl rfl | exact o_ldp tg3 rfl rfl rfl rfl)) ?_
    refine d_if rfl rfl rfl (fun _ => o_gt rfl rfl) (fun h5 => ?_) (fun h6 => ?_)
    · refine d_op rfl rfl rfl (fun _ => o_pkf rfl rfl) ?_
      refine d_op rfl rfl rfl (fun _ => o_mv rfl) ?_
      refine d_off rfl rfl ?_
      refine d_off rfl rfl ?_
      refine d_off rfl rfl ?_
      refine d_off rfl rfl ?_
      refine d_off rfl rfl ?_
      refine d_off rfl rfl ?_
      refine d_off rfl rfl ?_
      refine d_off rfl rfl ?_
      refine d_off rfl rfl ?_
      refine d_off rfl rfl ?_
      refine d_off rfl rfl ?_
      refine d_off rfl rfl ?_
      refine d_off rfl rfl ?_
      refine d_off rfl rfl ?_
      refine d_op rfl rfl rfl (fun _ => o_pkt rfl rfl) ?_
      refine d_nil ?_
      refine tq_n ?_
      refine w_true rfl ?_
      refine awp_seq ?_
      refine w_reg (l := r107_5.toList) rfl r107_5_ok ?_
      refine a_op rfl (o_as rfl) ?_
      refine a_nil ?_
      refine tq_n ?_
      refine awp_ret ?_
      refine bq_r ?_
      refine tq_r ?_
      refine tq_r ?_
      refine bq_r ?_
      refine tq_r ?_
      refine r_one rfl ⟨rfl, trivial⟩ ?_
      exact rs_pur (by simp) (by simp [rightF, hp2, incr_stop (hs := hs) (i := i) (last := last) hI (by omega)])
    refine d_op rfl rfl rfl (fun _ => o_pkf rfl rfl) ?_
    refine d_op rfl rfl rfl (fun _ => o_mv rfl) ?_
    refine d_op rfl rfl rfl (fun _ => o_mv rfl) ?_
    refine d_if rfl rfl rfl (fun _ => o_gt rfl rfl) (fun h7 => ?_) (fun h8 => ?_)
    · have hm1 : ((i : Nat) : Int) - 1 = ((i - 1 : Nat) : Int) := by omega
      have hj : i - 1 < hs.length := by omega
      have hl4 := hp4 hj (by omega)
      refine d_op rfl rfl rfl (fun _ => o_mv rfl) ?_
      refine d_op rfl rfl rfl (fun _ => o_mv rfl) ?_
      refine d_op rfl rfl rfl (fun _ => o_mv rfl) ?_
      refine d_op rfl rfl rfl (fun _ => o_sub rfl rfl (by simp only [klo, khi]; omega)) ?_
      refine d_op rfl rfl rfl (fun _ => o_ix te34 tn3 rfl rfl hm1 (ixm _ _ _ hj)) ?_
      refine d_op rfl rfl rfl (fun _ => (by first | exact o_ld tg3 rfl rfl | exact o_ldp tg3 rfl rfl rfl rfl)) ?_
      refine d_op rfl rfl rfl (fun _ => o_mv rfl) ?_
      refine d_op rfl rfl rfl (fun _ => o_mv rfl) ?_
      refine d_op rfl rfl rfl (fun _ => o_ix te34 tn3 rfl rfl rfl (ixm _ _ _ hI)) ?_
      refine d_op rfl rfl rfl (fun _ => (by first | exact o_ld tg3 rfl rfl | exact o_ldp tg3 rfl rfl rfl rfl)) ?_
      refine d_if rfl rfl rfl (fun _ => o_ge rfl rfl) (fun h9 => ?_) (fun h10 => ?_)
      · refine d_op rfl rfl rfl (fun _ => o_pkt rfl rfl) ?_
        refine d_op rfl rfl rfl (fun _ => o_pkf rfl rfl) ?_
        refine d_nil ?_
        refine tq_n ?_
        refine w_true rfl ?_
        refine awp_seq ?_
        refine w_reg (l := r107_5.toList) rfl r107_5_ok ?_
        refine a_op rfl (o_as rfl) ?_
        refine a_nil ?_
        refine tq_n ?_
        refine awp_ret ?_
        refine bq_r ?_
        refine tq_r ?_
        refine tq_r ?_
        refine bq_r ?_
        refine tq_r ?_
        refine r_one rfl ⟨rfl, trivial⟩ ?_
        exact rs_pur (by simp) (by simp [rightF, hp2, incr_stop (hs := hs) (i := i) (last := last) hI (by omega)])
      refine d_op rfl rfl rfl (fun _ => o_pkt rfl rfl) ?_
      refine d_op rfl rfl rfl (fun _ => o_pkf rfl rfl) ?_
      refine d_nil ?_
      refine tq_n ?_
      refine w_false rfl ?_
      refine awp_skip ?_
      refine bq_n ?_
      refine tq_n ?_
      refine w_reg (l := r107_3.toList) rfl r107_3_ok ?_
      refine a_op rfl (o_mv rfl) ?_
      refine a_op rfl (o_add rfl rfl (by simp only [klo, khi]; omega)) ?_
      refine a_op rfl (o_as rfl) ?_
      refine a_nil ?_
      refine tq_n ?_
      exact ⟨(i + 1, hs[i]), ⟨⟨⟨by dsimp only; omega, hp2.trans (incr_step hI (by omega) (by omega))⟩, by dsimp only; omega, fun _ _ => rfl, fun h => by dsimp only at h; omega⟩, by dsimp only; omega⟩, ⟨(by first | exact sub_int rfl (by omega) | rfl), (by first | exact sub_int rfl (by omega) | rfl), trivial⟩, rfl⟩
    refine d_op rfl rfl rfl (fun _ => o_mv rfl) ?_
    refine d_off rfl rfl ?_
    refine d_off rfl rfl ?_
    refine d_off rfl rfl ?_
    refine d_off rfl rfl ?_
    refine d_off rfl rfl ?_
    refine d_off rfl rfl ?_
    refine d_off rfl rfl ?_
    refine d_off rfl rfl ?_
    refine d_off rfl rfl ?_
    refine d_off rfl rfl ?_
    refine d_op rfl rfl rfl (fun _ => o_pkf rfl rfl) ?_
    refine d_op rfl rfl rfl (fun _ => o_pkf rfl rfl) ?_
    refine d_nil ?_
    refine tq_n ?_
    refine w_false rfl ?_
    refine awp_skip ?_
    refine bq_n ?_
    refine tq_n ?_
    refine w_reg (l := r107_3.toList) rfl r107_3_ok ?_
    refine a_op rfl (o_mv rfl) ?_
    refine a_op rfl (o_add rfl rfl (by simp only [klo, khi]; omega)) ?_
    refine a_op rfl (o_as rfl) ?_
    refine a_nil ?_
    refine tq_n ?_
    exact ⟨(i + 1, hs[i]), ⟨⟨⟨by dsimp only; omega, hp2.trans (incr_step hI (by by_cases h0 : 0 < i; (have := hp4 (by omega) h0; omega); (have := hp5 (by omega); omega)) (by omega))⟩, by dsimp only; omega, fun _ _ => rfl, fun h => by dsimp only at h; omega⟩, by dsimp only; omega⟩, ⟨(by first | exact sub_int rfl (by omega) | rfl), (by first | exact sub_int rfl (by omega) | rfl), trivial⟩, rfl⟩
  refine a_nil ?_
  refine tq_n ?_
  refine w_false rfl ?_
  refine awp_exit ?_
  refine tq_x ?_
  refine tq_x ?_
  refine bq_hit ?_
  refine tq_n ?_
  refine awp_seq ?_
  refine w_reg (l := r107_6.toList) rfl r107_6_ok ?_
  refine a_op rfl (o_mv rfl) ?_
  refine a_op rfl (o_len rfl rfl (by first | exact List.length_map .. | rfl) tl34) ?_
  refine a_op rfl (o_le rfl rfl) ?_
  refine a_op rfl (o_as rfl) ?_
  refine a_nil ?_
  refine tq_n ?_
  refine awp_ret ?_
  refine r_one rfl ⟨rfl, trivial⟩ ?_
  exact rs_pur (by simp) (by simp [rightF, hp2, List.drop_of_length_le (show hs.length ≤ i by omega), incr])
noncomputable def r85_0 : Array Oper := opsAt Tryd.f85 [0]
theorem r85_0_ok : dstOk 14 r85_0.toList = true ∧ r85_0.toList.all (fun o => noDefer o.op) = true := by decide +kernel
noncomputable def r85_1 : Array Oper := opsAt Tryd.f85 [1, 0, 0]
theorem r85_1_ok : dstOk 14 r85_1.toList = true ∧ r85_1.toList.all (fun o => noDefer o.op) = true := by decide +kernel
noncomputable def r85_2 : Array Oper := opsAt Tryd.f85 [1, 0, 1, 0, 0]
theorem r85_2_ok : dstOk 14 r85_2.toList = true ∧ r85_2.toList.all (fun o => noDefer o.op) = true := by decide +kernel
noncomputable def r85_3 : Array Oper := opsAt Tryd.f85 [1, 1, 0, 0]
theorem r85_3_ok : dstOk 14 r85_3.toList = true ∧ r85_3.toList.all (fun o => noDefer o.op) = true := by decide +kernel
noncomputable def r85_4 : Array Oper := opsAt Tryd.f85 [1, 1, 0, 1, 0, 0]
theorem r85_4_ok : dstOk 14 r85_4.toList = true ∧ r85_4.toList.all (fun o => noDefer o.op) = true := by decide +kernel
noncomputable def r85_5 : Array Oper := opsAt Tryd.f85 [1, 1, 1, 0]
theorem r85_5_ok : dstOk 14 r85_5.toList = true ∧ r85_5.toList.all (fun o => noDefer o.op) = true := by decide +kernel
noncomputable def c85 : Code := (.seq (.region 0 r85_0 false) (.seq (.seq (.region 1 r85_1 false) (.cond (.tmp 11) (.seq (.region 2 r85_2 false) .ret) .skip)) (.seq (.seq (.region 3 r85_3 false) (.cond (.tmp 13) (.seq (.region 4 r85_4 false) .ret) .skip)) (.seq (.region 5 r85_5 false) .ret))))
theorem body85 : Tryd.f85.body = some c85 := by kernel_rfl
theorem rwrong_ok (b : Bool) (hs : List Int) (hl : hs.length ≤ 4611686018427387904) (day : Int) : PureCall Tryd.prog GL 85 [.sl 1 b (hs.map intAV), .raw (.int .i64 day)] (.raw (.int .i64 (wrF hs day))) := by
  refine pure_of_body Tryd.func85 body85 (Nat.le_of_ble_eq_true rfl) (by simp) (by simp) ?_
  refine w_keep [(0, .sl 1 b (hs.map intAV)), (1, .raw (.int .i64 day))] ⟨rfl, rfl, trivial⟩ ?_
  unfold c85
  refine awp_seq ?_
  refine w_reg (l := r85_0.toList) rfl r85_0_ok ?_
  refine a_op rfl (o_as rfl) ?_
  refine a_nil ?_
  refine tq_n ?_
  refine awp_seq ?_
  refine awp_seq ?_
  refine w_reg (l := r85_1.toList) rfl r85_1_ok ?_
  refine a_op rfl (o_mv rfl) ?_
  refine a_pureb rfl rfl rfl cb107 (rright_ok _ _ (by omega)) (fun h1 => ?_) (fun h2 => ?_)
  · refine a_op rfl (o_ntt rfl) ?_
    refine a_op rfl (o_mv rfl) ?_
    refine a_op rfl (o_mv rfl) ?_
    refine a_if rfl (o_lt rfl rfl) (fun h3 => ?_) (fun h4 => ?_)
    · refine a_op rfl (o_pkf rfl rfl) ?_
      refine a_nil ?_
      refine tq_n ?_
      refine w_true rfl ?_
      refine awp_seq ?_
      refine w_reg (l := r85_2.toList) rfl r85_2_ok ?_
      refine a_op rfl (o_as rfl) ?_
      refine a_nil ?_
      refine tq_n ?_
      refine awp_ret ?_
      refine tq_r ?_
      refine r_one rfl ⟨rfl, trivial⟩ ?_
      exact rs_pur (by simp) (by simp [wrF, *] <;> omega)
    refine a_op rfl (o_pkf rfl rfl) ?_
    refine a_nil ?_
    refine tq_n ?_
    refine w_false rfl ?_
    refine awp_skip ?_
    refine tq_n ?_
    refine awp_seq ?_
    refine awp_seq ?_
    refine w_reg (l := r85_3.toList) rfl r85_3_ok ?_
    refine a_op rfl (o_mv rfl) ?_
    refine a_if rfl (o_gt rfl rfl) (fun h5 => ?_) (fun h6 => ?_)
    · refine a_nil ?_
      refine tq_n ?_
      refine w_true rfl ?_
      refine awp_seq ?_
      refine w_reg (l := r85_4.toList) rfl r85_4_ok ?_
      refine a_op rfl (o_as rfl) ?_
      refine a_nil ?_
      refine tq_n ?_
      refine awp_ret ?_
      refine tq_r ?_
      refine r_one rfl ⟨rfl, trivial⟩ ?_
      exact rs_pur (by simp) (by simp [wrF, *] <;> omega)
    refine a_nil ?_
    refine tq_n ?_
    refine w_false rfl ?_
    refine awp_skip ?_
    refine tq_n ?_
    refine awp_seq ?_
    refine w_reg (l := r85_5.toList) rfl r85_5_ok ?_
    refine a_op rfl (o_as rfl) ?_
    refine a_nil ?_
    refine tq_n ?_
    refine awp_ret ?_
    refine r_one rfl ⟨rfl, trivial⟩ ?_
    exact rs_pur (by simp) (by simp [wrF, *] <;> omega)
  refine a_op rfl (o_ntf rfl) ?_
  refine a_op rfl (o_mv rfl) ?_
  refine a_off rfl ?_
  refine a_off rfl ?_
  refine a_op rfl (o_pkt rfl rfl) ?_
  refine a_nil ?_
  refine tq_n ?_
  refine w_true rfl ?_
  refine awp_seq ?_
  refine w_reg (l := r85_2.toList) rfl r85_2_ok ?_
  refine a_op rfl (o_as rfl) ?_
  refine a_nil ?_
  refine tq_n ?_
  refine awp_ret ?_
  refine tq_r ?_
  refine r_one rfl ⟨rfl, trivial⟩ ?_
  exact rs_pur (by simp) (by simp [wrF, *] <;> omega)
noncomputable def r86_0 : Array Oper := opsAt Tryd.f86 [0]
theorem r86_0_ok : dstOk 20 r86_0.toList = true ∧ r86_0.toList.all (fun o => noDefer o.op) = true := by decide +kernel
noncomputable def r86_1 : Array Oper := opsAt Tryd.f86 [1, 0]
theorem r86_1_ok : dstOk 20 r86_1.toList = true ∧ r86_1.toList.all (fun o => noDefer o.op) = true := by decide +kernel
noncomputable def r86_2 : Array Oper := opsAt Tryd.f86 [1, 1, 0]
theorem r86_2_ok : dstOk 20 r86_2.toList = true ∧ r86_2.toList.all (fun o => noDefer o.op) = true := by decide +kernel
noncomputable def r86_3 : Array Oper := opsAt Tryd.f86 [1, 1, 1, 0, 0]
theorem r86_3_ok : dstOk 20 r86_3.toList = true ∧ r86_3.toList.all (fun o => noDefer o.op) = true := by decide +kernel
noncomputable def r86_4 : Array Oper := opsAt Tryd.f86 [1, 1, 1, 0, 1, 0, 0, 0, 0]
theorem r86_4_ok : dstOk 20 r86_4.toList = true ∧ r86_4.toList.all (fun o => noDefer o.op) = true := by decide +kernel
noncomputable def r86_6 : Array Oper := opsAt Tryd.f86 [1, 1, 1, 0, 1, 0, 0, 1, 0, 0]
theorem r86_6_ok : dstOk 20 r86_6.toList = true ∧ r86_6.toList.all (fun o => noDefer o.op) = true := by decide +kernel
noncomputable def r86_5 : Array Oper := opsAt Tryd.f86 [1, 1, 1, 0, 1, 0, 0, 1, 1]
theorem r86_5_ok : dstOk 20 r86_5.toList = true ∧ r86_5.toList.all (fun o => noDefer o.op) = true := by decide +kernel
noncomputable def b86_0 : Code := (.seq (.seq (.region 4 r86_4 false) (.cond (.tmp 14) .skip (.exit 0))) (.seq (.block 1 (.region 6 r86_6 false)) (.region 5 r86_5 false)))
noncomputable def r86_7 : Array Oper := opsAt Tryd.f86 [1, 1, 1, 1, 0]
theorem r86_7_ok : dstOk 20 r86_7.toList = true ∧ r86_7.toList.all (fun o => noDefer o.op) = true := by decide +kernel
noncomputable def c86 : Code := (.seq (.region 0 r86_0 false) (.seq (.region 1 r86_1 false) (.seq (.region 2 r86_2 false) (.seq (.seq (.region 3 r86_3 false) (.block 0 (.loop b86_0))) (.seq (.region 7 r86_7 false) .ret)))))
theorem body86 : Tryd.f86.body = some c86 := by kernel_rfl
theorem bit_ok (day : Int) : PureCall Tryd.prog GL 86 [.raw (.int .i64 day)] (.raw (.int .u8 (2 ^ (wk day).toNat))) := by
  refine pure_of_body Tryd.func86 body86 (Nat.le_of_ble_eq_true rfl) (by simp) (by simp) ?_
  refine w_keep [(0, .raw (.int .i64 day))] ⟨rfl, trivial⟩ ?_
  unfold c86
  have hwl := wk_lt day
  refine awp_seq ?_
  refine w_reg (l := r86_0.toList) rfl r86_0_ok ?_
  refine a_op rfl (o_as rfl) ?_
  refine a_nil ?_
  refine tq_n ?_
  refine awp_seq ?_
  refine w_reg (l := r86_1.toList) rfl r86_1_ok ?_
  refine a_op rfl (o_mv rfl) ?_
  refine a_pure rfl rfl rfl cb108 (rweekday_ok _) ?_
  refine a_op rfl (o_mv rfl) ?_
  refine a_op rfl (o_ex rfl rfl) ?_
  refine a_op rfl (o_ex rfl rfl) ?_
  refine a_op rfl (o_as rfl) ?_
  refine a_op rfl (o_as rfl) ?_
  refine a_nil ?_
  refine tq_n ?_
  refine awp_seq ?_
  refine w_reg (l := r86_2.toList) rfl r86_2_ok ?_
  refine a_op rfl (o_as rfl) ?_
  refine a_nil ?_
  refine tq_n ?_
  refine awp_seq ?_
  refine awp_seq ?_
  refine w_reg (l := r86_3.toList) rfl r86_3_ok ?_
  refine a_op rfl (o_as rfl) ?_
  refine a_nil ?_
  refine tq_n ?_
  refine awp_block ?_
  refine w_loop (fun i : Nat => i ≤ (wk day).toNat) (fun i => [(3, .raw (.int .i64 (wk day))), (5, .raw (.int .u8 (2 ^ i))), (6, .raw (.int .i64 (i : Int)))]) (fun _ => []) (fun i => (wk day).toNat - i) (0) (by omega) ⟨(by first | exact sub_int rfl (by omega) | rfl | exact sub_int rfl (by rw [Int.pow_succ])), (by first | exact sub_int rfl (by omega) | rfl | exact sub_int rfl (by rw [Int.pow_succ])), (by first | exact sub_int rfl (by omega) | rfl | exact sub_int rfl (by rw [Int.pow_succ])), trivial⟩ rfl ?_
  intro i hp1
  unfold b86_0
  refine awp_seq ?_
  refine awp_seq ?_
  refine w_reg (l := r86_4.toList) rfl r86_4_ok ?_
  refine a_op rfl (o_mv rfl) ?_
  refine a_op rfl (o_mv rfl) ?_
  refine a_if rfl (o_lt rfl rfl) (fun h1 => ?_) (fun h2 => ?_)
  · refine a_nil ?_
    refine tq_n ?_
    refine w_true rfl ?_
    refine awp_skip ?_
    refine tq_n ?_
    refine awp_seq ?_
    refine awp_block ?_
    have hpb := pow_bd (i := i) (by omega)
    refine w_reg (l := r86_6.toList) rfl r86_6_ok ?_
    refine a_op rfl (o_mv rfl) ?_
    refine a_op rfl (o_mul rfl rfl (by simp only [klo, khi]; omega)) ?_
    refine a_op rfl (o_as rfl) ?_
    refine a_nil ?_
    refine bq_n ?_
    refine tq_n ?_
    refine w_reg (l := r86_5.toList) rfl r86_5_ok ?_
    refine a_op rfl (o_mv rfl) ?_
    refine a_op rfl (o_add rfl rfl (by simp only [klo, khi]; omega)) ?_
    refine a_op rfl (o_as rfl) ?_
    refine a_nil ?_
    refine tq_n ?_
    exact ⟨i + 1, ⟨by omega, by omega⟩, ⟨(by first | exact sub_int rfl (by omega) | rfl | exact sub_int rfl (by rw [Int.pow_succ])), (by first | exact sub_int rfl (by omega) | rfl | exact sub_int rfl (by rw [Int.pow_succ])), (by first | exact sub_int rfl (by omega) | rfl | exact sub_int rfl (by rw [Int.pow_succ])), trivial⟩, rfl⟩
  refine a_nil ?_
  refine tq_n ?_
  refine w_false rfl ?_
  refine awp_exit ?_
  refine tq_x ?_
  refine tq_x ?_
  refine bq_hit ?_
  refine tq_n ?_
  refine awp_seq ?_
  refine w_reg (l := r86_7.toList) rfl r86_7_ok ?_
  refine a_op rfl (o_mv rfl) ?_
  refine a_op rfl (o_as rfl) ?_
  refine a_nil ?_
  refine tq_n ?_
  refine awp_ret ?_
  refine r_one rfl ⟨rfl, trivial⟩ ?_
  have hi : i = (wk day).toNat := by omega
  subst hi
  exact rs_pur (by simp) rfl
noncomputable def r47_0 : Array Oper := opsAt Tryd.f47 [0]
theorem r47_0_ok : dstOk 22 r47_0.toList = true ∧ r47_0.toList.all (fun o => noDefer o.op) = true := by decide +kernel
noncomputable def r47_1 : Array Oper := opsAt Tryd.f47 [1, 0, 0]
theorem r47_1_ok : dstOk 22 r47_1.toList = true ∧ r47_1.toList.all (fun o => noDefer o.op) = true := by decide +kernel
noncomputable def r47_2 : Array Oper := opsAt Tryd.f47 [1, 0, 1, 0, 0, 0, 0]
theorem r47_2_ok : dstOk 22 r47_2.toList = true ∧ r47_2.toList.all (fun o => noDefer o.op) = true := by decide +kernel
noncomputable def r47_4 : Array Oper := opsAt Tryd.f47 [1, 0, 1, 0, 0, 1, 0, 0, 0]
theorem r47_4_ok : dstOk 22 r47_4.toList = true ∧ r47_4.toList.all (fun o => noDefer o.op) = true := by decide +kernel
noncomputable def r47_5 : Array Oper := opsAt Tryd.f47 [1, 0, 1, 0, 0, 1, 0, 0, 1, 0, 0]
theorem r47_5_ok : dstOk 22 r47_5.toList = true ∧ r47_5.toList.all (fun o => noDefer o.op) = true := by decide +kernel
noncomputable def r47_3 : Array Oper := opsAt Tryd.f47 [1, 0, 1, 0, 0, 1, 1]
theorem r47_3_ok : dstOk 22 r47_3.toList = true ∧ r47_3.toList.all (fun o => noDefer o.op) = true := by decide +kernel
noncomputable def b47_0 : Code := (.seq (.seq (.region 2 r47_2 false) (.cond (.tmp 10) .skip (.exit 0))) (.seq (.block 1 (.seq (.region 4 r47_4 false) (.cond (.tmp 20) (.seq (.region 5 r47_5 false) .ret) .skip))) (.region 3 r47_3 false)))
noncomputable def r47_6 : Array Oper := opsAt Tryd.f47 [1, 1, 0]
theorem r47_6_ok : dstOk 22 r47_6.toList = true ∧ r47_6.toList.all (fun o => noDefer o.op) = true := by decide +kernel
noncomputable def c47 : Code := (.seq (.region 0 r47_0 false) (.seq (.seq (.region 1 r47_1 false) (.block 0 (.loop b47_0))) (.seq (.region 6 r47_6 false) .ret)))
theorem body47 : Tryd.f47.body = some c47 := by kernel_rfl
theorem rpoint_ok (a1 a2 a3 : AV) (g1 : Cel a1) (g2 : Cel a2) (g3 : Cel a3) (b : Bool) (pts : List PtR) (hl : pts.length ≤ 4611686018427387904) (n : Int) : PureCall Tryd.prog GL 47 [refAV a1 a2 a3 b pts, .raw (.int .i64 n)] (.raw (.int .i64 (ixf n pts 0))) := by
  refine pure_of_body Tryd.func47 body47 (Nat.le_of_ble_eq_true rfl) (by simp [pur_ref g1 g2 g3]) (by simp) ?_
  refine w_keep [(0, refAV a1 a2 a3 b pts), (1, .raw (.int .i64 n))] ⟨rfl, rfl, trivial⟩ ?_
  unfold c47
  refine awp_seq ?_
  refine w_reg (l := r47_0.toList) rfl r47_0_ok ?_
  refine a_op rfl (o_box (N := 0) rfl (by first | exact ref_good g1 g2 g3 | rfl) rfl rfl) ?_
  refine a_op rfl (o_as rfl) ?_
  refine a_nil ?_
  refine tq_n ?_
  refine awp_seq ?_
  refine awp_seq ?_
  refine w_reg (l := r47_1.toList) rfl r47_1_ok ?_
  refine a_op rfl (o_as rfl) ?_
  refine a_nil ?_
  refine tq_n ?_
  refine awp_block ?_
  refine w_loop (fun i : Nat => i ≤ pts.length ∧ ixf n pts 0 = ixf n (pts.drop i) i) (fun i => [(1, .raw (.int .i64 n)), (2, .ptr 0 0), (5, .raw (.int .i64 (i : Int)))]) (fun _ => [.var [a1, a2, a3, .sl 8 b (pts.map ptAV)]]) (fun i => pts.length - i) (0) ⟨by simp, by simp⟩ ⟨(by first | exact sub_int rfl (by omega) | rfl), (by first | exact sub_int rfl (by omega) | rfl), (by first | exact sub_int rfl (by omega) | rfl), trivial⟩ rfl ?_
  intro i ⟨hp1, hp2⟩
  unfold b47_0
  refine awp_seq ?_
  refine awp_seq ?_
  refine w_reg (l := r47_2.toList) rfl r47_2_ok ?_
  refine a_op rfl (o_mv rfl) ?_
  refine a_op rfl ((by first | exact o_fa tf30_3 rfl rfl | exact o_fap tf30_3 rfl rfl)) ?_
  refine a_op rfl ((by first | exact o_ld tg28 rfl rfl | exact o_ldp tg28 rfl rfl rfl rfl)) ?_
  refine a_op rfl (o_len rfl rfl (by first | exact List.length_map .. | rfl) tl28) ?_
  refine a_if rfl (o_lt rfl rfl) (fun h1 => ?_) (fun h2 => ?_)
  · refine a_nil ?_
    refine tq_n ?_
    refine w_true rfl ?_
    refine awp_skip ?_
    refine tq_n ?_
    refine awp_seq ?_
    refine awp_block ?_
    refine awp_seq ?_
    have hI : i < pts.length := by omega
    refine w_reg (l := r47_4.toList) rfl r47_4_ok ?_
    refine a_op rfl ((by first | exact o_fa tf30_3 rfl rfl | exact o_fap tf30_3 rfl rfl)) ?_
    refine a_op rfl ((by first | exact o_ld tg28 rfl rfl | exact o_ldp tg28 rfl rfl rfl rfl)) ?_
    refine a_op rfl (o_mv rfl) ?_
    refine a_op rfl (o_ix te28 tn39 rfl rfl rfl (ixm _ _ _ hI)) ?_
    refine a_op rfl ((by first | exact o_fa tf39_0 rfl rfl | exact o_fap tf39_0 rfl rfl)) ?_
    refine a_op rfl ((by first | exact o_ld tg3 rfl rfl | exact o_ldp tg3 rfl rfl rfl rfl)) ?_
    refine a_op rfl (o_mv rfl) ?_
    refine a_if rfl (o_eq rfl rfl) (fun h3 => ?_) (fun h4 => ?_)
    · refine a_nil ?_
      refine tq_n ?_
      refine w_true rfl ?_
      refine awp_seq ?_
      refine w_reg (l := r47_5.toList) rfl r47_5_ok ?_
      refine a_op rfl (o_mv rfl) ?_
      refine a_op rfl (o_as rfl) ?_
      refine a_nil ?_
      refine tq_n ?_
      refine awp_ret ?_
      refine bq_r ?_
      refine tq_r ?_
      refine tq_r ?_
      refine bq_r ?_
      refine tq_r ?_
      refine r_one rfl ⟨rfl, trivial⟩ ?_
      exact rs_int (by rw [hp2, ixf_hit hI (by omega)])
    refine a_nil ?_
    refine tq_n ?_
    refine w_false rfl ?_
    refine awp_skip ?_
    refine bq_n ?_
    refine tq_n ?_
    refine w_reg (l := r47_3.toList) rfl r47_3_ok ?_
    refine a_op rfl (o_mv rfl) ?_
    refine a_op rfl (o_add rfl rfl (by simp only [klo, khi]; omega)) ?_
    refine a_op rfl (o_as rfl) ?_
    refine a_nil ?_
    refine tq_n ?_
    exact ⟨i + 1, ⟨⟨by omega, hp2.trans (ixf_drop hI (by omega))⟩, by omega⟩, ⟨(by first | exact sub_int rfl (by omega) | rfl), (by first | exact sub_int rfl (by omega) | rfl), (by first | exact sub_int rfl (by omega) | rfl), trivial⟩, rfl⟩
  refine a_nil ?_
  refine tq_n ?_
  refine w_false rfl ?_
  refine awp_exit ?_
  refine tq_x ?_
  refine tq_x ?_
  refine bq_hit ?_
  refine tq_n ?_
  refine awp_seq ?_
  refine w_reg (l := r47_6.toList) rfl r47_6_ok ?_
  refine a_op rfl (o_as rfl) ?_
  refine a_nil ?_
  refine tq_n ?_
  refine awp_ret ?_
  refine r_one rfl ⟨rfl, trivial⟩ ?_
  exact rs_int (by rw [hp2, List.drop_of_length_le (by omega)]; rfl)
end Go.Ab.D
