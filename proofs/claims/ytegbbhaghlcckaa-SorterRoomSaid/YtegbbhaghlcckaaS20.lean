/- What functions of this program compute, and the laws of what they compute, under the bounds on lengths that each contract states. -/
import Derived.Test.YtegbbhaghlcckaaK11
import Derived.Test.YtegbbhaghlcckaaK14
import Derived.Test.YtegbbhaghlcckaaAb41

set_option linter.unusedSimpArgs false
set_option linter.unusedVariables false
namespace Go.Ab.S
open Go Go.Ab Go.Proofs
def rowF (b : Fl) (l : List Int) : AV := .sl 1 b (l.map intAV)
@[simp] theorem pur_rowF (b : Fl) (l : List Int) : Pur (rowF b l) ↔ True := by simp [rowF]
theorem cat_op2 {F : Frm} {b2 : Fl} {rows : List (List Int)} {i : Nat} {x y : Operand} (h : i < rows.length) (hx : evx F x = some (.slo 0 i 0 (sumL rows i))) (hy : evx F y = some (rowF b2 rows[i])) (hb : rows.flatten.length ≤ 1000000) :
    OpOk Try.prog (.call { callee := .builtin .append, args := #[x, y], argTypes := #[34, 34] }) F [.vec 1 i (catE rows i)] (.slo 0 (i + 1) 0 (sumL rows (i + 1))) [.vec 1 (i + 1) (catE rows (i + 1))] := by
  have h1 := sumL_le rows (i + 1)
  have h2 := sumL_succ h
  rw [h2, catE_succ h]
  rcases Nat.eq_zero_or_pos i with h0 | h0
  · subst h0
    have hs : sumL rows 0 = 0 := rfl
    rw [hs] at hx h2
    rw [hs]
    exact o_apc tE34 hx rfl hy rfl (by simp) (by rw [catE, if_pos rfl, List.length_replicate, List.length_map]; omega) rfl (by rw [List.length_map]) (by simp) rfl
  · have hc : catE rows i = (rows.take i).flatten.map intAV := by unfold catE; rw [if_neg (by omega)]
    rw [hc]
    have hl : ((rows.take i).flatten.map intAV).length = sumL rows i := by rw [List.length_map, sumL]
    exact o_ap tE34 hx rfl hl.symm hy rfl (by simp) (by rw [hl, List.length_map]; omega) (by rw [hl, List.length_map]; omega) rfl (by rw [List.length_map]) rfl rfl

theorem concatF_ok (b b2 : Fl) (rows : List (List Int)) (hl : rows.length ≤ 100000) (hb : rows.flatten.length ≤ 1000000) : PureCall Try.prog GL 78 [.sl 1 b (rows.map (rowF b2))] (rowAV rows.flatten) := by
  refine pure_of_body Try.func78 body78 (Nat.le_of_ble_eq_true rfl) (by simp) (by simp) ?_
  refine w_keep [(0, .sl 1 b (rows.map (rowF b2)))] ⟨rfl, trivial⟩ ?_
  unfold c78
  refine awp_seq ?_
  refine w_reg (l := r78_0.toList) rfl r78_0_ok ?_
  refine a_op rfl (o_as rfl) ?_
  refine a_nil ?_
  refine tq_n ?_
  refine awp_seq ?_
  refine w_reg (l := r78_1.toList) rfl r78_1_ok ?_
  refine a_op rfl (o_as rfl) ?_
  refine a_nil ?_
  refine tq_n ?_
  refine awp_seq ?_
  refine awp_seq ?_
  refine w_reg (l := r78_2.toList) rfl r78_2_ok ?_
  refine a_op rfl (o_mv rfl) ?_
  refine a_op rfl (o_len rfl rfl (by first | exact List.length_map .. | rfl) tl57) ?_
  refine a_op rfl (o_mv rfl) ?_
  refine a_nil ?_
  refine tq_n ?_
  refine awp_block ?_
  refine w_loop (fun i : Nat => i ≤ rows.length) (fun i => [(0, .sl 1 b (rows.map (rowF b2))), (3, .raw (.int .i64 ((sumL rows i : Nat) : Int))), (9, .sl 1 b (rows.map (rowF b2))), (10, .raw (.int .i64 ((rows.length : Nat) : Int))), (11, .raw (.int .i64 ((i : Nat) : Int)))]) (fun _ => []) (fun i => rows.length - i) (0) (by simp) ⟨(by first | exact sub_int rfl (by omega) | rfl), (by first | exact sub_int rfl (by omega) | rfl), (by first | exact sub_int rfl (by omega) | rfl), (by first | exact sub_int rfl (by omega) | rfl), (by first | exact sub_int rfl (by omega) | rfl), trivial⟩ rfl ?_
  intro i hp
  have hs1 := sumL_le rows i
  unfold b78_0
  refine awp_seq ?_
  refine w_reg (l := r78_3.toList) rfl r78_3_ok ?_
  refine a_if rfl (o_lt rfl rfl) (fun h1 => ?_) (fun h2 => ?_)
  · refine a_nil ?_
    refine tq_n ?_
    refine awp_seq ?_
    refine w_true rfl ?_
    refine awp_skip ?_
    refine tq_n ?_
    refine awp_seq ?_
    refine awp_block ?_
    refine awp_seq ?_
    have hi : i < rows.length := by omega
    have hs2 := sumL_succ hi
    have hs3 := sumL_le rows (i + 1)
    refine w_reg (l := r78_4.toList) rfl r78_4_ok ?_
    refine a_op rfl (o_ix te57 tn34 rfl rfl rfl (ixm _ _ _ hi)) ?_
    refine a_op rfl ((by first | exact o_ld tg34 rfl rfl | exact o_ldp tg34 rfl rfl rfl rfl)) ?_
    refine a_op rfl (o_as rfl) ?_
    refine a_nil ?_
    refine tq_n ?_
    refine awp_seq ?_
    refine w_reg (l := r78_5.toList) rfl r78_5_ok ?_
    refine a_op rfl (o_mv rfl) ?_
    refine a_op rfl (o_mv rfl) ?_
    refine a_op rfl (o_len rfl rfl (by first | exact List.length_map .. | rfl) tl34) ?_
    refine a_op rfl (o_add rfl rfl (by simp only [klo, khi]; omega)) ?_
    refine a_op rfl (o_as rfl) ?_
    refine a_nil ?_
    refine tq_n ?_
    refine awp_seq ?_
    refine w_reg (l := r78_6.toList) rfl r78_6_ok ?_
    refine a_op rfl (o_mv rfl) ?_
    refine a_if rfl (o_lt rfl rfl) (fun h3 => ?_) (fun h4 => ?_)
    · omega
    refine a_nil ?_
    refine tq_n ?_
    refine w_false rfl ?_
    refine awp_skip ?_
    refine bq_n ?_
    refine tq_n ?_
    refine w_reg (l := r78_8.toList) rfl r78_8_ok ?_
    refine a_op rfl (o_add rfl rfl (by simp only [klo, khi]; omega)) ?_
    refine a_op rfl (o_mv rfl) ?_
    refine a_nil ?_
    refine tq_n ?_
    exact ⟨i + 1, ⟨by omega, by omega⟩, ⟨(by first | exact sub_int rfl (by omega) | rfl | exact sub_int rfl (by rw [sumL_succ hi]; rfl)), (by first | exact sub_int rfl (by omega) | rfl | exact sub_int rfl (by rw [sumL_succ hi]; rfl)), (by first | exact sub_int rfl (by omega) | rfl | exact sub_int rfl (by rw [sumL_succ hi]; rfl)), (by first | exact sub_int rfl (by omega) | rfl | exact sub_int rfl (by rw [sumL_succ hi]; rfl)), (by first | exact sub_int rfl (by omega) | rfl | exact sub_int rfl (by rw [sumL_succ hi]; rfl)), trivial⟩, rfl⟩
  refine a_nil ?_
  refine tq_n ?_
  refine awp_seq ?_
  refine w_false rfl ?_
  refine awp_exit ?_
  refine tq_x ?_
  refine tq_x ?_
  refine bq_hit ?_
  refine tq_n ?_
  refine awp_seq ?_
  refine w_reg (l := r78_9.toList) rfl r78_9_ok ?_
  refine a_op rfl (o_mv rfl) ?_
  rcases Nat.eq_zero_or_pos rows.flatten.length with hz | hz
  · refine a_call rfl rfl rfl cb116 (by rw [show i = rows.length by omega, sumL_all]; exact (grow0_ok _ hz).calls) ?_
    rintro r H' ⟨rfl, rfl⟩
    refine a_op rfl (o_as rfl) ?_
    refine a_nil ?_
    refine tq_n ?_
    refine awp_seq ?_
    refine awp_seq ?_
    refine w_own (q := 6) (z := 1) (N := 0) (by decide) rfl rfl rfl ?_
    refine w_heq (H1 := [.vec 1 0 (catE rows 0)]) (by rw [catE, if_pos rfl, hz]; rfl) ?_
    refine w_reg (l := r78_10.toList) rfl r78_10_ok ?_
    refine a_op rfl (o_mv rfl) ?_
    refine a_op rfl (o_len rfl rfl (by first | exact List.length_map .. | rfl) tl57) ?_
    refine a_op rfl (o_mv rfl) ?_
    refine a_nil ?_
    refine tq_n ?_
    refine awp_block ?_
    refine w_loop (fun j : Nat => j ≤ rows.length) (fun j => [(6, .slo 0 j 0 (sumL rows j)), (25, .sl 1 b (rows.map (rowF b2))), (26, .raw (.int .i64 ((rows.length : Nat) : Int))), (27, .raw (.int .i64 ((j : Nat) : Int)))]) (fun j => [.vec 1 j (catE rows j)]) (fun j => rows.length - j) (0) (by simp) ⟨(by first | exact sub_int rfl (by omega) | rfl), (by first | exact sub_int rfl (by omega) | rfl), (by first | exact sub_int rfl (by omega) | rfl), (by first | exact sub_int rfl (by omega) | rfl), trivial⟩ rfl ?_
    intro j hq
    unfold b78_1
    refine awp_seq ?_
    refine w_reg (l := r78_11.toList) rfl r78_11_ok ?_
    refine a_if rfl (o_lt rfl rfl) (fun h5 => ?_) (fun h6 => ?_)
    · refine a_nil ?_
      refine tq_n ?_
      refine awp_seq ?_
      refine w_true rfl ?_
      refine awp_skip ?_
      refine tq_n ?_
      refine awp_seq ?_
      refine awp_block ?_
      refine awp_seq ?_
      have hj : j < rows.length := by omega
      refine w_reg (l := r78_12.toList) rfl r78_12_ok ?_
      refine a_op rfl (o_ix te57 tn34 rfl rfl rfl (ixm _ _ _ hj)) ?_
      refine a_op rfl ((by first | exact o_ld tg34 rfl rfl | exact o_ldp tg34 rfl rfl rfl rfl)) ?_
      refine a_op rfl (o_as rfl) ?_
      refine a_nil ?_
      refine tq_n ?_
      refine w_reg (l := r78_13.toList) rfl r78_13_ok ?_
      refine a_op rfl (o_mv rfl) ?_
      refine a_op rfl (o_mv rfl) ?_
      refine a_op rfl (cat_op2 hj rfl rfl hb) ?_
      refine a_op rfl (o_as rfl) ?_
      refine a_nil ?_
      refine bq_n ?_
      refine tq_n ?_
      refine w_reg (l := r78_14.toList) rfl r78_14_ok ?_
      refine a_op rfl (o_add rfl rfl (by simp only [klo, khi]; omega)) ?_
      refine a_op rfl (o_mv rfl) ?_
      refine a_nil ?_
      refine tq_n ?_
      exact ⟨j + 1, ⟨by omega, by omega⟩, ⟨(by first | exact sub_int rfl (by omega) | rfl), (by first | exact sub_int rfl (by omega) | rfl), (by first | exact sub_int rfl (by omega) | rfl), (by first | exact sub_int rfl (by omega) | rfl), trivial⟩, rfl⟩
    refine a_nil ?_
    refine tq_n ?_
    refine awp_seq ?_
    refine w_false rfl ?_
    refine awp_exit ?_
    refine tq_x ?_
    refine tq_x ?_
    refine bq_hit ?_
    refine tq_n ?_
    refine awp_seq ?_
    refine w_reg (l := r78_15.toList) rfl r78_15_ok ?_
    refine a_op rfl (o_mv rfl) ?_
    refine a_op rfl (o_as rfl) ?_
    refine a_nil ?_
    refine tq_n ?_
    refine awp_ret ?_
    refine r_one rfl ⟨rfl, trivial⟩ ?_
    have hjl : j = rows.length := by omega
    subst hjl
    exact rs_slo id rfl (by rw [sumL_all, catE_all, List.length_map]) (pu_int _) (catE_all rows).symm
  refine a_call rfl rfl rfl cb116 (by rw [show i = rows.length by omega, sumL_all]; exact (grow_ok _ hz (by omega)).calls) ?_
  rintro r H' ⟨rfl, rfl⟩
  refine a_op rfl (o_as rfl) ?_
  refine a_nil ?_
  refine tq_n ?_
  refine awp_seq ?_
  refine awp_seq ?_
  refine w_heq (H1 := [.vec 1 0 (catE rows 0)]) (by rw [catE, if_pos rfl]) ?_
  refine w_reg (l := r78_10.toList) rfl r78_10_ok ?_
  refine a_op rfl (o_mv rfl) ?_
  refine a_op rfl (o_len rfl rfl (by first | exact List.length_map .. | rfl) tl57) ?_
  refine a_op rfl (o_mv rfl) ?_
  refine a_nil ?_
  refine tq_n ?_
  refine awp_block ?_
  refine w_loop (fun j : Nat => j ≤ rows.length) (fun j => [(6, .slo 0 j 0 (sumL rows j)), (25, .sl 1 b (rows.map (rowF b2))), (26, .raw (.int .i64 ((rows.length : Nat) : Int))), (27, .raw (.int .i64 ((j : Nat) : Int)))]) (fun j => [.vec 1 j (catE rows j)]) (fun j => rows.length - j) (0) (by simp) ⟨(by first | exact sub_int rfl (by omega) | rfl), (by first | exact sub_int rfl (by omega) | rfl), (by first | exact sub_int rfl (by omega) | rfl), (by first | exact sub_int rfl (by omega) | rfl), trivial⟩ rfl ?_
  intro j hq
  unfold b78_1
  refine awp_seq ?_
  refine w_reg (l := r78_11.toList) rfl r78_11_ok ?_
  refine a_if rfl (o_lt rfl rfl) (fun h7 => ?_) (fun h8 => ?_)
  · refine a_nil ?_
    refine tq_n ?_
    refine awp_seq ?_
    refine w_true rfl ?_
    refine awp_skip ?_
    refine tq_n ?_
    refine awp_seq ?_
    refine awp_block ?_
    refine awp_seq ?_
    have hj : j < rows.length := by omega
    refine w_reg (l := r78_12.toList) rfl r78_12_ok ?_
    refine a_op rfl (o_ix te57 tn34 rfl rfl rfl (ixm _ _ _ hj)) ?_
    refine a_op rfl ((by first | exact o_ld tg34 rfl rfl | exact o_ldp tg34 rfl rfl rfl rfl)) ?_
    refine a_op rfl (o_as rfl) ?_
    refine a_nil ?_
    refine tq_n ?_
    refine w_reg (l := r78_13.toList) rfl r78_13_ok ?_
    refine a_op rfl (o_mv rfl) ?_
    refine a_op rfl (o_mv rfl) ?_
    refine a_op rfl (cat_op2 hj rfl rfl hb) ?_
    refine a_op rfl (o_as rfl) ?_
    refine a_nil ?_
    refine bq_n ?_
    refine tq_n ?_
    refine w_reg (l := r78_14.toList) rfl r78_14_ok ?_
    refine a_op rfl (o_add rfl rfl (by simp only [klo, khi]; omega)) ?_
    refine a_op rfl (o_mv rfl) ?_
    refine a_nil ?_
    refine tq_n ?_
    exact ⟨j + 1, ⟨by omega, by omega⟩, ⟨(by first | exact sub_int rfl (by omega) | rfl), (by first | exact sub_int rfl (by omega) | rfl), (by first | exact sub_int rfl (by omega) | rfl), (by first | exact sub_int rfl (by omega) | rfl), trivial⟩, rfl⟩
  refine a_nil ?_
  refine tq_n ?_
  refine awp_seq ?_
  refine w_false rfl ?_
  refine awp_exit ?_
  refine tq_x ?_
  refine tq_x ?_
  refine bq_hit ?_
  refine tq_n ?_
  refine awp_seq ?_
  refine w_reg (l := r78_15.toList) rfl r78_15_ok ?_
  refine a_op rfl (o_mv rfl) ?_
  refine a_op rfl (o_as rfl) ?_
  refine a_nil ?_
  refine tq_n ?_
  refine awp_ret ?_
  refine r_one rfl ⟨rfl, trivial⟩ ?_
  have hjl : j = rows.length := by omega
  subst hjl
  exact rs_slo id rfl (by rw [sumL_all, catE_all, List.length_map]) (pu_int _) (catE_all rows).symm
noncomputable def r81_0 : Array Oper := opsAt Try.f81 [0]
theorem r81_0_ok : dstOk 5 r81_0.toList = true ∧ r81_0.toList.all (fun o => noDefer o.op) = true := by decide +kernel
noncomputable def r81_1 : Array Oper := opsAt Try.f81 [1, 0]
theorem r81_1_ok : dstOk 5 r81_1.toList = true ∧ r81_1.toList.all (fun o => noDefer o.op) = true := by decide +kernel
noncomputable def c81 : Code := (.seq (.region 0 r81_0 false) (.seq (.region 1 r81_1 false) .ret))
theorem body81 : Try.f81.body = some c81 := by kernel_rfl
theorem fst_ok (s : SeatR) : PureCall Try.prog GL 81 [seatAV s] (.raw (.int .i64 (s.fst))) := by
  refine pure_of_body Try.func81 body81 (Nat.le_of_ble_eq_true rfl) (by simp) (by simp) ?_
  refine w_keep [(0, seatAV s)] ⟨rfl, trivial⟩ ?_
  unfold c81
  refine awp_seq ?_
  refine w_reg (l := r81_0.toList) rfl r81_0_ok ?_
  refine a_op rfl (o_box (N := 0) rfl (by rfl) rfl rfl) ?_
  refine a_op rfl (o_as rfl) ?_
  refine a_nil ?_
  refine tq_n ?_
  refine awp_seq ?_
  refine w_reg (l := r81_1.toList) rfl r81_1_ok ?_
  refine a_op rfl ((by first | exact o_fa tf89_2 rfl rfl | exact o_fap tf89_2 rfl rfl)) ?_
  refine a_op rfl ((by first | exact o_ld tg3 rfl rfl | exact o_ldp tg3 rfl rfl rfl rfl)) ?_
  refine a_op rfl (o_as rfl) ?_
  refine a_nil ?_
  refine tq_n ?_
  refine awp_ret ?_
  refine r_one rfl ⟨rfl, trivial⟩ ?_
  exact rs_pur (by simp) rfl
noncomputable def r82_0 : Array Oper := opsAt Try.f82 [0]
theorem r82_0_ok : dstOk 5 r82_0.toList = true ∧ r82_0.toList.all (fun o => noDefer o.op) = true := by decide +kernel
noncomputable def r82_1 : Array Oper := opsAt Try.f82 [1, 0]
theorem r82_1_ok : dstOk 5 r82_1.toList = true ∧ r82_1.toList.all (fun o => noDefer o.op) = true := by decide +kernel
noncomputable def c82 : Code := (.seq (.region 0 r82_0 false) (.seq (.region 1 r82_1 false) .ret))
theorem body82 : Try.f82.body = some c82 := by kernel_rfl
theorem snd_ok (s : SeatR) : PureCall Try.prog GL 82 [seatAV s] (.raw (.int .i64 (s.snd))) := by
  refine pure_of_body Try.func82 body82 (Nat.le_of_ble_eq_true rfl) (by simp) (by simp) ?_
  refine w_keep [(0, seatAV s)] ⟨rfl, trivial⟩ ?_
  unfold c82
  refine awp_seq ?_
  refine w_reg (l := r82_0.toList) rfl r82_0_ok ?_
  refine a_op rfl (o_box (N := 0) rfl (by rfl) rfl rfl) ?_
  refine a_op rfl (o_as rfl) ?_
  refine a_nil ?_
  refine tq_n ?_
  refine awp_seq ?_
  refine w_reg (l := r82_1.toList) rfl r82_1_ok ?_
  refine a_op rfl ((by first | exact o_fa tf89_3 rfl rfl | exact o_fap tf89_3 rfl rfl)) ?_
  refine a_op rfl ((by first | exact o_ld tg3 rfl rfl | exact o_ldp tg3 rfl rfl rfl rfl)) ?_
  refine a_op rfl (o_as rfl) ?_
  refine a_nil ?_
  refine tq_n ?_
  refine awp_ret ?_
  refine r_one rfl ⟨rfl, trivial⟩ ?_
  exact rs_pur (by simp) rfl
noncomputable def hS (b : B4) (p : PlanR) (bi : Fl) (ids : List Int) (ord : List Int) (O8 : AObj) (ex : Heap) : Heap :=
  [.var (planC b p), .var [.sl 1 bi (ids.map intAV)], .var [.raw (.slice none 0 0), .raw (.slice none 0 0), .raw (.slice none 0 0)], .mapo (mpG seatAV (mkM (·.stop) p.seats)), .dead, .var [.mp 3], .dead, .var [rowAV ord], O8] ++ ex
theorem refs_new : ∀ n m : Nat, refs m (List.replicate n []) = (List.range n).map fun k => AV.slo (m + k) 0 0 0 := by
  intro n m
  apply List.ext_getElem?
  intro k
  by_cases h : k < n
  · rw [refs_get m _ k (by simpa using h)]; simp [h]
  · rw [List.getElem?_eq_none (by rw [refs_len]; simpa using h), List.getElem?_eq_none (by simpa using h)]
theorem rowG10 {l : List (List Int)} {k : Nat} {a0 a1 a2 a3 a4 a5 a6 a7 a8 a9 : AObj} (h : k < l.length) : (([a0, a1, a2, a3, a4, a5, a6, a7, a8, a9] : Heap) ++ l.map rowO)[10 + k]? = some (.vec 1 l[k].length (l[k].map intAV)) := by
  rw [List.getElem?_append_right (by simp), show 10 + k - ([a0, a1, a2, a3, a4, a5, a6, a7, a8, a9] : Heap).length = k by simp]; simp [h, rowO]
theorem rowS10 {l : List (List Int)} {k ver : Nat} {es : List AV} {a0 a1 a2 a3 a4 a5 a6 a7 a8 a9 : AObj} (h : k < l.length) : (([a0, a1, a2, a3, a4, a5, a6, a7, a8, a9] : Heap) ++ (l.map rowO).set k (.vec 1 ver es))[10 + k]? = some (.vec 1 ver es) := by
  rw [List.getElem?_append_right (by simp), show 10 + k - ([a0, a1, a2, a3, a4, a5, a6, a7, a8, a9] : Heap).length = k by simp]; simp [h]
theorem setX_row10 {l : List (List Int)} {k : Nat} {o : AObj} {a0 a1 a2 a3 a4 a5 a6 a7 a8 a9 : AObj} (h : k < l.length) : setX (([a0, a1, a2, a3, a4, a5, a6, a7, a8, a9] : Heap) ++ l.map rowO) (10 + k) o = some ([a0, a1, a2, a3, a4, a5, a6, a7, a8, a9] ++ (l.map rowO).set k o) := by
  rw [setX_ok (by simp; omega), List.set_append_right _ _ (by simp), show 10 + k - ([a0, a1, a2, a3, a4, a5, a6, a7, a8, a9] : Heap).length = k by simp]
/-- An own row of own rows is lent. -/
theorem ln_rows {H : Heap} {rows : List (List Int)} {i m ver n : Nat} (h1 : H[i]? = some (.vec 1 ver (refs m rows))) (hn : n = rows.length) (h2 : ∀ k (h : k < rows.length), H[m + k]? = some (.vec 1 rows[k].length (rows[k].map intAV))) :
    RsG true H (fun _ => False) (.slo i ver 0 n) (.sl 1 fL (rows.map (rowF fL))) := by
  subst hn
  refine ln_slos h1 (by rw [refs_len]) (by rw [refs_len, List.length_map]) (fun k x x' hx hx' => ?_) (fun k x x' hx hx' => ?_)
  · have hk := get_lt hx'
    rw [List.length_map] at hk
    rw [refs_get m rows k hk] at hx
    simp [hk] at hx hx'
    subst hx; subst hx'; rfl
  · have hk := get_lt hx'
    rw [List.length_map] at hk
    rw [refs_get m rows k hk] at hx
    simp [hk] at hx hx'
    subst hx; subst hx'
    exact ln_slo (h2 k hk) (by simp) (pu_int _) rfl
/-- An own row of own rows, sealed. -/
theorem rs_rowsK {H : Heap} {keep : Nat → Prop} {rows : List (List Int)} {i m ver n : Nat} (hk : ¬ keep i) (hk2 : ∀ k, k < rows.length → ¬ keep (m + k)) (h1 : H[i]? = some (.vec 1 ver (refs m rows))) (hn : n = rows.length) (h2 : ∀ k (h : k < rows.length), H[m + k]? = some (.vec 1 rows[k].length (rows[k].map intAV))) :
    Rs H keep (.slo i ver 0 n) (.sl 1 false (rows.map rowAV)) := by
  subst hn
  refine .slo hk h1 (by rw [refs_len]; omega) (by simp) (fun k x x' hx hx' => ?_) (fun k x x' hx hx' => ?_)
  · rw [List.drop_zero] at hx
    have hk := get_lt hx'
    simp only [List.length_map] at hk
    rw [refs_get m rows k hk] at hx
    simp [hk] at hx hx'
    subst hx; subst hx'
    rfl
  · rw [List.drop_zero] at hx
    have hk := get_lt hx'
    simp only [List.length_map] at hk
    rw [refs_get m rows k hk] at hx
    simp [hk] at hx hx'
    subst hx; subst hx'
    exact rs_slo (hk2 k hk) (h2 k hk) (by simp) (pu_int _) rfl

noncomputable def r80_0 : Array Oper := opsAt Try.f80 [0]
theorem r80_0_ok : dstOk 43 r80_0.toList = true ∧ r80_0.toList.all (fun o => noDefer o.op) = true := by decide +kernel
noncomputable def r80_1 : Array Oper := opsAt Try.f80 [1, 0]
theorem r80_1_ok : dstOk 43 r80_1.toList = true ∧ r80_1.toList.all (fun o => noDefer o.op) = true := by decide +kernel
noncomputable def r80_2 : Array Oper := opsAt Try.f80 [1, 1, 0, 0]
theorem r80_2_ok : dstOk 43 r80_2.toList = true ∧ r80_2.toList.all (fun o => noDefer o.op) = true := by decide +kernel
noncomputable def r80_3 : Array Oper := opsAt Try.f80 [1, 1, 0, 1, 0, 0, 0]
theorem r80_3_ok : dstOk 43 r80_3.toList = true ∧ r80_3.toList.all (fun o => noDefer o.op) = true := by decide +kernel
noncomputable def r80_4 : Array Oper := opsAt Try.f80 [1, 1, 0, 1, 0, 0, 1, 1, 0, 0, 0]
theorem r80_4_ok : dstOk 43 r80_4.toList = true ∧ r80_4.toList.all (fun o => noDefer o.op) = true := by decide +kernel
noncomputable def r80_5 : Array Oper := opsAt Try.f80 [1, 1, 0, 1, 0, 0, 1, 1, 0, 0, 1, 0]
theorem r80_5_ok : dstOk 43 r80_5.toList = true ∧ r80_5.toList.all (fun o => noDefer o.op) = true := by decide +kernel
noncomputable def r80_6 : Array Oper := opsAt Try.f80 [1, 1, 0, 1, 0, 0, 1, 1, 0, 0, 1, 1]
theorem r80_6_ok : dstOk 43 r80_6.toList = true ∧ r80_6.toList.all (fun o => noDefer o.op) = true := by decide +kernel
noncomputable def r80_7 : Array Oper := opsAt Try.f80 [1, 1, 0, 1, 0, 0, 1, 1, 1]
theorem r80_7_ok : dstOk 43 r80_7.toList = true ∧ r80_7.toList.all (fun o => noDefer o.op) = true := by decide +kernel
noncomputable def b80_0 : Code := (.seq (.region 3 r80_3 false) (.seq (.cond (.tmp 18) .skip (.exit 0)) (.seq (.block 1 (.seq (.region 4 r80_4 false) (.seq (.region 5 r80_5 true) (.region 6 r80_6 false)))) (.region 7 r80_7 false))))
noncomputable def r80_8 : Array Oper := opsAt Try.f80 [1, 1, 1, 0]
theorem r80_8_ok : dstOk 43 r80_8.toList = true ∧ r80_8.toList.all (fun o => noDefer o.op) = true := by decide +kernel
noncomputable def r80_9 : Array Oper := opsAt Try.f80 [1, 1, 1, 1, 0]
theorem r80_9_ok : dstOk 43 r80_9.toList = true ∧ r80_9.toList.all (fun o => noDefer o.op) = true := by decide +kernel
noncomputable def c80 : Code := (.seq (.region 0 r80_0 false) (.seq (.region 1 r80_1 false) (.seq (.seq (.region 2 r80_2 false) (.block 0 (.loop b80_0))) (.seq (.region 8 r80_8 false) (.seq (.region 9 r80_9 false) .ret)))))
theorem body80 : Try.f80.body = some c80 := by kernel_rfl
theorem pass_ok (b : B4) (p : PlanR) (hpl : p.caps.length ≤ 1000) (bi : Fl) (ids : List Int) (ord : List Int) (hol : ord.length ≤ 100000) (O8 : AObj) (f : Nat) (hcb : callable Try.prog f = true) (sel : SeatR → Int) (hsel : ∀ s, PureCall Try.prog GL f [seatAV s] (.raw (.int .i64 (sel s))))
    (hin : ∀ a ∈ ord, 0 ≤ a ∧ a < ids.length) (hd : ∀ a ∈ ord, 0 ≤ sel (seatOf p ids a) ∧ sel (seatOf p ids a) < p.caps.length) :
    ACall Try.prog GL 80 [.fn f [] [], .ptr 0 0, .ptr 7 0, .ptr 5 0, .ptr 1 0] (hS b p bi ids ord O8 []) (fun r H' => r = .slo 9 0 0 p.caps.length ∧ H' = hS b p bi ids (passS p.caps.length (fun a => sel (seatOf p ids a)) ord ord.length).flatten O8 (.vec 1 0 (refs 10 (passS p.caps.length (fun a => sel (seatOf p ids a)) ord ord.length)) :: (passS p.caps.length (fun a => sel (seatOf p ids a)) ord ord.length).map rowO)) := by
  refine acall_of_body Try.func80 body80 (Nat.le_of_ble_eq_true rfl) ?_
  unfold hS
  refine w_keep [(0, .fn f [] []), (1, .ptr 0 0), (2, .ptr 7 0), (3, .ptr 5 0), (4, .ptr 1 0)] ⟨rfl, rfl, rfl, rfl, rfl, trivial⟩ ?_
  unfold c80
  refine awp_seq ?_
  refine w_reg (l := r80_0.toList) rfl r80_0_ok ?_
  refine a_op rfl (o_as rfl) ?_
  refine a_nil ?_
  refine tq_n ?_
  refine awp_seq ?_
  refine w_reg (l := r80_1.toList) rfl r80_1_ok ?_
  refine a_op rfl ((by first | exact o_fa tf51_0 rfl rfl | exact o_fap tf51_0 rfl rfl)) ?_
  refine a_op rfl ((by first | exact o_ld tg34 rfl rfl | exact o_ldp tg34 rfl rfl rfl rfl)) ?_
  refine a_op rfl (o_len rfl rfl (by first | exact List.length_map .. | rfl) tl34) ?_
  refine a_opH rfl (o_ms (N := 9) tE57 rfl rfl (by omega) (Int.le_refl _) (by omega) (by omega) rfl rfl) (H' := [.var (planC b p), .var [.sl 1 bi (ids.map intAV)], .var [.raw (.slice none 0 0), .raw (.slice none 0 0), .raw (.slice none 0 0)], .mapo (mpG seatAV (mkM (·.stop) p.seats)), .dead, .var [.mp 3], .dead, .var [rowAV ord], O8, .vec 1 0 (List.replicate p.caps.length (.raw (.slice none 0 0)))]) (by rw [Int.toNat_natCast]) ?_
  rw [Int.toNat_natCast]
  refine a_op rfl (o_as rfl) ?_
  refine a_nil ?_
  refine tq_n ?_
  refine awp_seq ?_
  refine awp_seq ?_
  refine w_owns (i := 9) (z := 1) (ver := 0) (by decide) p.caps.length (List.replicate p.caps.length (.raw (.slice none 0 0))) (fun k hk => by simp [hk]) rfl ?_
  refine w_heq (H1 := [.var (planC b p), .var [.sl 1 bi (ids.map intAV)], .var [.raw (.slice none 0 0), .raw (.slice none 0 0), .raw (.slice none 0 0)], .mapo (mpG seatAV (mkM (·.stop) p.seats)), .dead, .var [.mp 3], .dead, .var [rowAV ord], O8, .vec 1 0 (refs 10 (passS p.caps.length (fun a => sel (seatOf p ids a)) ord 0))] ++ (passS p.caps.length (fun a => sel (seatOf p ids a)) ord 0).map rowO) (by simp [passS, refs_new, rowO]) ?_
  refine w_reg (l := r80_2.toList) rfl r80_2_ok ?_
  refine a_op rfl ((by first | exact o_ld tg34 rfl rfl | exact o_ldp tg34 rfl rfl rfl rfl)) ?_
  refine a_op rfl (o_len rfl rfl (by first | exact List.length_map .. | rfl) tl34) ?_
  refine a_op rfl (o_mv rfl) ?_
  refine a_nil ?_
  refine tq_n ?_
  refine awp_block ?_
  refine w_loop (fun i : Nat => i ≤ ord.length) (fun i => [(0, .fn f [] []), (2, .ptr 7 0), (3, .ptr 5 0), (4, .ptr 1 0), (7, .slo 9 0 0 p.caps.length), (15, rowAV ord), (16, .raw (.int .i64 ((ord.length : Nat) : Int))), (17, .raw (.int .i64 ((i : Nat) : Int)))]) (fun i => [.var (planC b p), .var [.sl 1 bi (ids.map intAV)], .var [.raw (.slice none 0 0), .raw (.slice none 0 0), .raw (.slice none 0 0)], .mapo (mpG seatAV (mkM (·.stop) p.seats)), .dead, .var [.mp 3], .dead, .var [rowAV ord], O8, .vec 1 0 (refs 10 (passS p.caps.length (fun a => sel (seatOf p ids a)) ord i))] ++ (passS p.caps.length (fun a => sel (seatOf p ids a)) ord i).map rowO) (fun i => ord.length - i) (0) (by simp) ⟨(by first | exact sub_int rfl (by omega) | rfl), (by first | exact sub_int rfl (by omega) | rfl), (by first | exact sub_int rfl (by omega) | rfl), (by first | exact sub_int rfl (by omega) | rfl), (by first | exact sub_int rfl (by omega) | rfl), (by first | exact sub_int rfl (by omega) | rfl), (by first | exact sub_int rfl (by omega) | rfl), (by first | exact sub_int rfl (by omega) | rfl), trivial⟩ rfl ?_
  intro i hp
  obtain ⟨rows, hrows⟩ : ∃ rows, rows = (passS p.caps.length (fun a => sel (seatOf p ids a)) ord i) := ⟨_, rfl⟩
  have hrl : rows.length = p.caps.length := by rw [hrows]; exact passS_len i hp
  have hfl : rows.flatten.length = i := by
    rw [hrows, (passS_perm hd i hp).length_eq, List.length_take]; omega
  rw [← hrows]
  unfold b80_0
  refine awp_seq ?_
  refine w_reg (l := r80_3.toList) rfl r80_3_ok ?_
  refine a_if rfl (o_lt rfl rfl) (fun h1 => ?_) (fun h2 => ?_)
  · refine a_nil ?_
    refine tq_n ?_
    refine awp_seq ?_
    refine w_true rfl ?_
    refine awp_skip ?_
    refine tq_n ?_
    refine awp_seq ?_
    refine awp_block ?_
    refine awp_seq ?_
    have hi : i < ord.length := by omega
    have hai := hin _ (List.getElem_mem hi)
    obtain ⟨a, ha⟩ : ∃ a : Nat, ord[i] = a := ⟨ord[i].toNat, by omega⟩
    have hal : a < ids.length := by omega
    have hdi := hd _ (List.getElem_mem hi)
    obtain ⟨k, hk⟩ : ∃ k : Nat, sel (seatOf p ids ord[i]) = k := ⟨(sel (seatOf p ids ord[i])).toNat, by omega⟩
    have hkn : k < p.caps.length := by omega
    have hkr : k < rows.length := by omega
    have hkf : rows[k].length ≤ i := by rw [← hfl]; exact (List.sublist_flatten_of_mem (List.getElem_mem hkr)).length_le
    have hrg0 : (refs 10 rows)[0 + k]? = some (.slo (10 + k) rows[k].length 0 rows[k].length) := by rw [Nat.zero_add]; exact refs_get 10 rows k hkr
    have hse : (mget (mkM (·.stop) p.seats) ids[a]).getD s0R = seatOf p ids ord[i] := by rw [seatOf, ha, Int.toNat_natCast, getDi hal]; rfl
    refine w_reg (l := r80_4.toList) rfl r80_4_ok ?_
    refine a_op rfl (o_ix te34 tn3 rfl rfl rfl (ixm _ _ _ hi)) ?_
    refine a_op rfl ((by first | exact o_ld tg3 rfl rfl | exact o_ldp tg3 rfl rfl rfl rfl)) ?_
    refine a_op rfl (o_as rfl) ?_
    refine a_nil ?_
    refine tq_n ?_
    refine awp_seq ?_
    refine awp_draw ⟨[[], [], [], [], [2, 3], [2, 3, 4], [1, 2, 3, 4, 5], [0, 1, 2, 3, 4, 5, 6], [0, 1, 2, 3, 4, 5, 6, 7]], [[0], [3], [4], [9], [23, 24], [25], [22, 26], [21, 27], [28]], [[], [5], [1], [], [], [], [3], [], []], [none, none, none, none, none, none, none, none, none]⟩ mo r80_5_ok (by decide +kernel) (l := r80_5.toList) rfl ?_
    refine d_op rfl rfl rfl (fun _ => o_mv rfl) ?_
    refine d_op rfl rfl rfl (fun _ => (by first | exact o_ld tg187 rfl rfl | exact o_ldp tg187 rfl rfl rfl rfl)) ?_
    refine d_op rfl rfl rfl (fun _ => (by first | exact o_ld tg34 rfl rfl | exact o_ldp tg34 rfl rfl rfl rfl)) ?_
    refine d_op rfl rfl rfl (fun _ => o_mv rfl) ?_
    refine d_op rfl rfl rfl (fun _ => o_ix te34 tn3 rfl rfl ha (ixm _ _ _ hal)) ?_
    refine d_op rfl rfl rfl (fun _ => (by first | exact o_ld tg3 rfl rfl | exact o_ldp tg3 rfl rfl rfl rfl)) ?_
    refine d_op rfl rfl rfl (fun _ => o_lkG0 (d := s0R) mt187 k3 mz89 vz89 rfl rfl rfl) ?_
    rw [hse]
    refine d_pure rfl rfl rfl rfl hcb (hsel _) ?_
    refine d_op rfl rfl rfl (fun _ => o_as rfl) ?_
    refine d_nil ?_
    refine tq_n ?_
    refine w_reg (l := r80_6.toList) rfl r80_6_ok ?_
    refine a_op rfl (o_mv rfl) ?_
    refine a_op rfl (o_mv rfl) ?_
    refine a_op rfl (o_mv rfl) ?_
    refine a_op rfl (o_mv rfl) ?_
    refine a_op rfl (o_ixo te57 tn34 rfl rfl rfl hk hkn) ?_
    refine a_op rfl (o_ldp (el := .slo (10 + k) rows[k].length 0 rows[k].length) tg34 rfl rfl hrg0 rfl) ?_
    refine a_op rfl (o_mv rfl) ?_
    refine a_op rfl (o_bs tE34 (by decide) rfl rfl rfl) ?_
    refine a_op rfl (o_ap tE34 rfl (rowG10 hkr) (by simp) rfl rfl rfl (by simp; omega) (by simp; omega) rfl rfl rfl (setX_row10 hkr)) ?_
    refine a_op rfl (o_ixo te57 tn34 rfl rfl rfl hk hkn) ?_
    refine a_op0 rfl (o_stp (N := 0) (el := .slo (10 + k) rows[k].length 0 rows[k].length) tn34 rfl rfl (good_slo' (rowS10 hkr)) rfl rfl hrg0 rfl (Nat.le_refl _)) ?_
    refine a_nil ?_
    refine bq_n ?_
    refine tq_n ?_
    refine w_reg (l := r80_7.toList) rfl r80_7_ok ?_
    refine a_op rfl (o_add rfl rfl (by simp only [klo, khi]; omega)) ?_
    refine a_op rfl (o_mv rfl) ?_
    refine a_nil ?_
    refine tq_n ?_
    exact ⟨i + 1, ⟨by omega, by omega⟩, ⟨(by first | exact sub_int rfl (by omega) | rfl), (by first | exact sub_int rfl (by omega) | rfl), (by first | exact sub_int rfl (by omega) | rfl), (by first | exact sub_int rfl (by omega) | rfl), (by first | exact sub_int rfl (by omega) | rfl), (by first | exact sub_int rfl (by omega) | rfl), (by first | exact sub_int rfl (by omega) | rfl), (by first | exact sub_int rfl (by omega) | rfl), trivial⟩, by rw [passS_succ hi, ← hrows, hk, Int.toNat_natCast, getDg hkr, ← refs_set 10 rows k _ hkr, List.map_set]; simp [rowO]; rfl⟩
  refine a_nil ?_
  refine tq_n ?_
  refine awp_seq ?_
  refine w_false rfl ?_
  refine awp_exit ?_
  refine tq_x ?_
  refine tq_x ?_
  refine bq_hit ?_
  refine tq_n ?_
  refine awp_seq ?_
  refine w_reg (l := r80_8.toList) rfl r80_8_ok ?_
  refine a_op rfl (o_mv rfl) ?_
  have hii : i = ord.length := by omega
  refine a_lendF (vs' := [.sl 1 fL (rows.map (rowF fL))]) rfl rfl rfl cb78 (concatF_ok _ _ rows (by omega) (by omega)) ⟨ln_rows (i := 9) (m := 10) rfl hrl.symm (fun k h => rowG10 h), trivial⟩ (by simp) ?_
  refine a_op0 rfl (o_st (N := 0) tn34 rfl rfl rfl rfl rfl) ?_
  refine a_nil ?_
  refine tq_n ?_
  refine awp_seq ?_
  refine w_reg (l := r80_9.toList) rfl r80_9_ok ?_
  refine a_op rfl (o_mv rfl) ?_
  refine a_op rfl (o_as rfl) ?_
  refine a_nil ?_
  refine tq_n ?_
  refine awp_ret ?_
  refine r_one rfl ⟨rfl, trivial⟩ ?_
  exact ⟨rfl, by rw [← hii, ← hrows]; rfl⟩
end Go.Ab.S
