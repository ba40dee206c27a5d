/- What functions of this program compute, and the laws of what they compute, under the bounds on lengths that each contract states. -/
import Derived.Test.YtegbbhaghlcckaaSF
import Derived.Test.YtegbbhaghlcckaaSE
import Derived.Test.YtegbbhaghlcckaaAb39

set_option linter.unusedSimpArgs false
set_option linter.unusedVariables false
namespace Go.Ab.S
open Go Go.Ab Go.Proofs
/-! ### a route, a machine and items in small numbers -/
structure CaseR where
  vols : List Int
  caps : List Int
  picks : List Int
  unread : List Int
  sweeps : Int
structure CaseR.ok (x : CaseR) : Prop where
  v : ∀ a ∈ x.vols, u8r a
  c : ∀ a ∈ x.caps, u8r a
  p : ∀ a ∈ x.picks, u8r a
  u : ∀ a ∈ x.unread, u8r a
  s : u8r x.sweeps
  lv : x.vols.length ≤ 9223372036854775807
  lc : x.caps.length ≤ 9223372036854775807
  lp : x.picks.length ≤ 9223372036854775807
  lu : x.unread.length ≤ 9223372036854775807
def caseAV (b : B4) (x : CaseR) : AV := .agg [.sl 1 b.b0 (x.vols.map u8AV), .sl 1 b.b1 (x.caps.map u8AV), .sl 1 b.b2 (x.picks.map u8AV), .sl 1 b.b3 (x.unread.map u8AV), .raw (.int .u8 x.sweeps)]
@[simp] theorem pur_case (b : B4) (x : CaseR) : Pur (caseAV b x) ↔ True := by simp [caseAV]
def stopAt (x : CaseR) (i : Nat) : StopR := ⟨500 - 3 * (i : Int), 1 + (x.vols.getD i 0) % 4⟩
def stopsF (x : CaseR) : List StopR := (List.range (min x.vols.length 40)).map (stopAt x)
def capsF (x : CaseR) : List Int := (machF x.caps).map (· + 4)
def itemAt (x : CaseR) (i : Nat) : ItemR :=
  ⟨1 + 7 * (i : Int), if ((x.picks.getD i 0) % ((stopsF x).length + 1)).toNat < (stopsF x).length then ((stopsF x).getD ((x.picks.getD i 0) % ((stopsF x).length + 1)).toNat ⟨0, 0⟩).id else 0,
    if i < x.unread.length then decide ((x.unread.getD i 0) % 8 ≠ 0) else true, if i < x.unread.length then decide ((x.unread.getD i 0) % 8 ≠ 1) else true⟩
def itemsF (x : CaseR) : List ItemR := (List.range (min x.picks.length 200)).map (itemAt x)
def planF (x : CaseR) : PlanR × Int := makeF (stopsF x) (capsF x)
def builtF (x : CaseR) : (PlanR × List ItemR) × Bool := if (planF x).2 = 0 then (((planF x).1, itemsF x), true) else (((planF x).1, []), false)
theorem range_map_succ {α : Type} (f : Nat → α) (i : Nat) : (List.range (i + 1)).map f = (List.range i).map f ++ [f i] := by rw [List.range_succ, List.map_append]; rfl
theorem stopsF_len (x : CaseR) : (stopsF x).length ≤ 40 := by simp [stopsF]; omega
/-- A row whose first elements are 4 more. -/
def add4 (l : List Int) (i : Nat) : List Int := (l.take i).map (· + 4) ++ l.drop i
theorem add4_len (l : List Int) (i : Nat) : (add4 l i).length = l.length := by simp [add4]; omega
theorem add4_get {l : List Int} {i : Nat} (h : i < l.length) : (add4 l i)[i]'(by rw [add4_len]; exact h) = l[i] := by
  simp only [add4]
  rw [List.getElem_append_right (by simp; omega), List.getElem_drop]
  congr 1
  simp; omega
theorem add4_set {l : List Int} {i : Nat} (h : i < l.length) : (add4 l i).set i (l[i] + 4) = add4 l (i + 1) := by
  have h1 : ((l.take i).map (· + 4)).length = i := by simp; omega
  rw [add4, List.set_append_right _ _ (by omega), h1, Nat.sub_self, List.drop_eq_getElem_cons h, List.set_cons_zero, add4, List.take_succ_eq_append_getElem h, List.map_append, List.append_assoc]
  rfl
theorem add4_all (l : List Int) : add4 l l.length = l.map (· + 4) := by simp [add4]
theorem add4_zero (l : List Int) : add4 l 0 = l := by simp [add4]
def seatI (p : PlanR) (k : Int) : Int := fxI (fun i => decide ((p.seats.getD i s0R).stop = k)) p.seats.length
end Go.Ab.S
namespace Go.Ab.S
open Go Go.Ab Go.Proofs

theorem machO_ok (b : Fl) (l : List Int) (hl : l.length ≤ 9223372036854775807) (hx : ∀ x ∈ l, u8r x) : ACall Try.prog GL 27 [.sl 1 b (l.map u8AV)] ([]) (fun r H' => ∃ v, r = .slo 1 v 0 (machF l).length ∧ H' = [.vec 1 0 [], .vec 1 v ((machF l).map intAV)]) := by
  refine acall_of_body Try.func27 body27 (Nat.le_of_ble_eq_true rfl) ?_
  refine w_keep [(0, .sl 1 b (l.map u8AV))] ⟨rfl, trivial⟩ ?_
  unfold c27
  refine awp_seq ?_
  refine w_reg (l := r27_0.toList) rfl r27_0_ok ?_
  refine a_op rfl (o_as rfl) ?_
  refine a_nil ?_
  refine tq_n ?_
  refine awp_seq ?_
  refine w_reg (l := r27_1.toList) rfl r27_1_ok ?_
  refine a_op rfl (o_as rfl) ?_
  refine a_nil ?_
  refine tq_n ?_
  refine awp_seq ?_
  refine awp_seq ?_
  refine w_ph 1 (by decide) rfl ?_
  refine w_own (q := 3) (z := 1) (N := 1) (by decide) rfl rfl rfl ?_
  refine w_reg (l := r27_2.toList) rfl r27_2_ok ?_
  refine a_op rfl (o_as rfl) ?_
  refine a_nil ?_
  refine tq_n ?_
  refine awp_block ?_
  refine w_loop (fun i : Nat => i ≤ l.length ∧ i ≤ 12) (fun i => [(0, .sl 1 b (l.map u8AV)), (3, .slo 1 i 0 i), (4, .raw (.int .i64 (i : Int)))]) (fun i => [.vec 1 0 [], .vec 1 i (((l.take i).map fun x => 1 + x % 16).map intAV)]) (fun i => 12 - i) (0) ⟨by simp, by omega⟩ ⟨(by first | exact sub_int rfl (by omega) | rfl | exact sub_eq rfl (by simp)), (by first | exact sub_int rfl (by omega) | rfl | exact sub_eq rfl (by simp)), (by first | exact sub_int rfl (by omega) | rfl | exact sub_eq rfl (by simp)), trivial⟩ rfl ?_
  intro i ⟨hp1, hp2⟩
  unfold b27_0
  refine awp_seq ?_
  refine awp_seq ?_
  refine w_reg (l := r27_3.toList) rfl r27_3_ok ?_
  refine a_op rfl (o_mv rfl) ?_
  refine a_op rfl (o_mv rfl) ?_
  refine a_op rfl (o_len rfl rfl (by first | exact List.length_map .. | rfl) tl22) ?_
  refine a_if rfl (o_lt rfl rfl) (fun h1 => ?_) (fun h2 => ?_)
  · refine a_op rfl (o_mv rfl) ?_
    refine a_op rfl (o_mv rfl) ?_
    refine a_if rfl (o_lt rfl rfl) (fun h3 => ?_) (fun h4 => ?_)
    · refine a_op rfl (o_pkt rfl rfl) ?_
      refine a_nil ?_
      refine tq_n ?_
      refine w_true rfl ?_
      refine awp_skip ?_
      refine tq_n ?_
      refine awp_seq ?_
      refine awp_block ?_
      have hi : i < l.length := by omega
      have hxi := hx _ (List.getElem_mem hi)
      unfold u8r at hxi
      refine w_reg (l := r27_5.toList) rfl r27_5_ok ?_
      refine a_op rfl (o_mv rfl) ?_
      refine a_op rfl (o_mv rfl) ?_
      refine a_op rfl (o_mv rfl) ?_
      refine a_op rfl (o_ix te22 tn5 rfl rfl rfl (ixm _ _ _ hi)) ?_
      refine a_op rfl ((by first | exact o_ld tg5 rfl rfl | exact o_ldp tg5 rfl rfl rfl rfl)) ?_
      refine a_op rfl (o_rem rfl rfl (by omega) (by omega)) ?_
      refine a_op rfl (o_cv tk5 tk3 rfl (by simp only [klo, khi]; omega)) ?_
      refine a_op rfl (o_add rfl rfl (by simp only [klo, khi]; omega)) ?_
      refine a_op rfl (o_bs tE34 (by decide) rfl rfl rfl) ?_
      refine a_op rfl (o_ap tE34 rfl rfl (by simp; omega) rfl rfl rfl (by simp; omega) (by simp; omega) rfl rfl rfl rfl) ?_
      refine a_op rfl (o_as rfl) ?_
      refine a_nil ?_
      refine bq_n ?_
      refine tq_n ?_
      refine w_reg (l := r27_4.toList) rfl r27_4_ok ?_
      refine a_op rfl (o_mv rfl) ?_
      refine a_op rfl (o_add rfl rfl (by simp only [klo, khi]; omega)) ?_
      refine a_op rfl (o_as rfl) ?_
      refine a_nil ?_
      refine tq_n ?_
      exact ⟨i + 1, ⟨⟨by omega, by omega⟩, by omega⟩, ⟨(by first | exact sub_int rfl (by omega) | rfl | exact sub_eq rfl (by simp)), (by first | exact sub_int rfl (by omega) | rfl | exact sub_eq rfl (by simp)), (by first | exact sub_int rfl (by omega) | rfl | exact sub_eq rfl (by simp)), trivial⟩, by rw [List.take_succ_eq_append_getElem (by omega)]; simp only [List.map_append, List.map_cons, List.map_nil]; try rfl⟩
    refine a_op rfl (o_pkt rfl rfl) ?_
    refine a_nil ?_
    refine tq_n ?_
    refine w_false rfl ?_
    refine awp_exit ?_
    refine tq_x ?_
    refine tq_x ?_
    refine bq_hit ?_
    refine tq_n ?_
    refine awp_seq ?_
    refine awp_seq ?_
    refine w_reg (l := r27_6.toList) rfl r27_6_ok ?_
    refine a_op rfl (o_mv rfl) ?_
    refine a_op rfl (o_len (q := i) (j := i) rfl (by simp [lenAV]) rfl tl34) ?_
    refine a_if rfl (o_eq rfl rfl) (fun h5 => ?_) (fun h6 => ?_)
    · refine a_nil ?_
      refine tq_n ?_
      refine w_true rfl ?_
      refine awp_seq ?_
      refine w_view [(0, .sl 1 b (l.map u8AV))] [.vec 1 0 []] 1 rfl (Nat.le_of_ble_eq_true rfl) (Nat.le_of_ble_eq_true rfl) ⟨⟨_, rfl, (by first | exact .mpK (Nat.le_of_ble_eq_true rfl) | exact .sloK (Nat.le_of_ble_eq_true rfl) | exact .ptrK (Nat.le_of_ble_eq_true rfl) | exact rs_pur (by simp) rfl)⟩, trivial⟩ ⟨ors_vec (by simp), trivial⟩ ?_
      refine w_reg (l := r27_7.toList) rfl r27_7_ok ?_
      refine a_op rfl (o_bso (N := 1) tE34 (by decide) rfl rfl rfl rfl rfl) ?_
      refine a_op rfl (o_as rfl) ?_
      refine a_nil ?_
      refine tq_n ?_
      refine awp_ret ?_
      refine tq_r ?_
      refine r_one rfl ⟨rfl, trivial⟩ ?_
      have ht : l.take i = l.take 12 := by
        rcases Nat.lt_or_ge i 12 with h | h
        · rw [List.take_of_length_le (show l.length ≤ i by omega), List.take_of_length_le (show l.length ≤ 12 by omega)]
        · rw [show i = 12 by omega]
      have h0 : l = [] := by
        have : i = 0 := by omega
        have : l.length = 0 := by omega
        exact List.length_eq_zero_iff.1 this
      subst h0
      exact ⟨0, rfl, rfl⟩
    refine a_nil ?_
    refine tq_n ?_
    refine w_false rfl ?_
    refine awp_skip ?_
    refine tq_n ?_
    refine awp_seq ?_
    refine w_reg (l := r27_8.toList) rfl r27_8_ok ?_
    refine a_op rfl (o_mv rfl) ?_
    refine a_op rfl (o_as rfl) ?_
    refine a_nil ?_
    refine tq_n ?_
    refine awp_ret ?_
    refine r_one rfl ⟨rfl, trivial⟩ ?_
    have ht : l.take i = l.take 12 := by
      rcases Nat.lt_or_ge i 12 with h | h
      · rw [List.take_of_length_le (show l.length ≤ i by omega), List.take_of_length_le (show l.length ≤ 12 by omega)]
      · rw [show i = 12 by omega]
    have hne : machL l ≠ [] := by
      intro h
      have := congrArg List.length h
      rw [machL, List.length_map, List.length_take, List.length_nil] at this
      omega
    have hm : machF l = (l.take i).map fun x => 1 + x % 16 := by rw [machF, if_neg hne, machL, ht]
    have hml : (machF l).length = i := by rw [hm]; simp; omega
    exact ⟨i, by rw [hml], by rw [hm]⟩
  refine a_op rfl (o_mv rfl) ?_
  refine a_off rfl ?_
  refine a_off rfl ?_
  refine a_op rfl (o_pkf rfl rfl) ?_
  refine a_nil ?_
  refine tq_n ?_
  refine w_false rfl ?_
  refine awp_exit ?_
  refine tq_x ?_
  refine tq_x ?_
  refine bq_hit ?_
  refine tq_n ?_
  refine awp_seq ?_
  refine awp_seq ?_
  refine w_reg (l := r27_6.toList) rfl r27_6_ok ?_
  refine a_op rfl (o_mv rfl) ?_
  refine a_op rfl (o_len (q := i) (j := i) rfl (by simp [lenAV]) rfl tl34) ?_
  refine a_if rfl (o_eq rfl rfl) (fun h7 => ?_) (fun h8 => ?_)
  · refine a_nil ?_
    refine tq_n ?_
    refine w_true rfl ?_
    refine awp_seq ?_
    refine w_view [(0, .sl 1 b (l.map u8AV))] [.vec 1 0 []] 1 rfl (Nat.le_of_ble_eq_true rfl) (Nat.le_of_ble_eq_true rfl) ⟨⟨_, rfl, (by first | exact .mpK (Nat.le_of_ble_eq_true rfl) | exact .sloK (Nat.le_of_ble_eq_true rfl) | exact .ptrK (Nat.le_of_ble_eq_true rfl) | exact rs_pur (by simp) rfl)⟩, trivial⟩ ⟨ors_vec (by simp), trivial⟩ ?_
    refine w_reg (l := r27_7.toList) rfl r27_7_ok ?_
    refine a_op rfl (o_bso (N := 1) tE34 (by decide) rfl rfl rfl rfl rfl) ?_
    refine a_op rfl (o_as rfl) ?_
    refine a_nil ?_
    refine tq_n ?_
    refine awp_ret ?_
    refine tq_r ?_
    refine r_one rfl ⟨rfl, trivial⟩ ?_
    have ht : l.take i = l.take 12 := by
      rcases Nat.lt_or_ge i 12 with h | h
      · rw [List.take_of_length_le (show l.length ≤ i by omega), List.take_of_length_le (show l.length ≤ 12 by omega)]
      · rw [show i = 12 by omega]
    have h0 : l = [] := by
      have : i = 0 := by omega
      have : l.length = 0 := by omega
      exact List.length_eq_zero_iff.1 this
    subst h0
    exact ⟨0, rfl, rfl⟩
  refine a_nil ?_
  refine tq_n ?_
  refine w_false rfl ?_
  refine awp_skip ?_
  refine tq_n ?_
  refine awp_seq ?_
  refine w_reg (l := r27_8.toList) rfl r27_8_ok ?_
  refine a_op rfl (o_mv rfl) ?_
  refine a_op rfl (o_as rfl) ?_
  refine a_nil ?_
  refine tq_n ?_
  refine awp_ret ?_
  refine r_one rfl ⟨rfl, trivial⟩ ?_
  have ht : l.take i = l.take 12 := by
    rcases Nat.lt_or_ge i 12 with h | h
    · rw [List.take_of_length_le (show l.length ≤ i by omega), List.take_of_length_le (show l.length ≤ 12 by omega)]
    · rw [show i = 12 by omega]
  have hne : machL l ≠ [] := by
    intro h
    have := congrArg List.length h
    rw [machL, List.length_map, List.length_take, List.length_nil] at this
    omega
  have hm : machF l = (l.take i).map fun x => 1 + x % 16 := by rw [machF, if_neg hne, machL, ht]
  have hml : (machF l).length = i := by rw [hm]; simp; omega
  exact ⟨i, by rw [hml], by rw [hm]⟩
theorem pu_item1 (l : List ItemR) (y : ItemR) : ∀ x ∈ l.map itemAV ++ [itemAV y], Pur x := by
  intro x hx
  rcases List.mem_append.1 hx with hx | hx
  · exact pu_item _ x hx
  · simp at hx; subst hx; simp

noncomputable def r34_0 : Array Oper := opsAt Try.f34 [0]
theorem r34_0_ok : dstOk 127 r34_0.toList = true ∧ r34_0.toList.all (fun o => noDefer o.op) = true := by decide +kernel
noncomputable def r34_1 : Array Oper := opsAt Try.f34 [1, 0]
theorem r34_1_ok : dstOk 127 r34_1.toList = true ∧ r34_1.toList.all (fun o => noDefer o.op) = true := by decide +kernel
noncomputable def r34_2 : Array Oper := opsAt Try.f34 [1, 1, 0, 0]
theorem r34_2_ok : dstOk 127 r34_2.toList = true ∧ r34_2.toList.all (fun o => noDefer o.op) = true := by decide +kernel
noncomputable def r34_3 : Array Oper := opsAt Try.f34 [1, 1, 0, 1, 0, 0, 0, 0]
theorem r34_3_ok : dstOk 127 r34_3.toList = true ∧ r34_3.toList.all (fun o => noDefer o.op) = true := by decide +kernel
noncomputable def r34_5 : Array Oper := opsAt Try.f34 [1, 1, 0, 1, 0, 0, 1, 0, 0]
theorem r34_5_ok : dstOk 127 r34_5.toList = true ∧ r34_5.toList.all (fun o => noDefer o.op) = true := by decide +kernel
noncomputable def r34_4 : Array Oper := opsAt Try.f34 [1, 1, 0, 1, 0, 0, 1, 1]
theorem r34_4_ok : dstOk 127 r34_4.toList = true ∧ r34_4.toList.all (fun o => noDefer o.op) = true := by decide +kernel
noncomputable def b34_0 : Code := (.seq (.seq (.region 3 r34_3 false) (.cond (.tmp 23) .skip (.exit 0))) (.seq (.block 1 (.region 5 r34_5 false)) (.region 4 r34_4 false)))
noncomputable def r34_6 : Array Oper := opsAt Try.f34 [1, 1, 1, 0]
theorem r34_6_ok : dstOk 127 r34_6.toList = true ∧ r34_6.toList.all (fun o => noDefer o.op) = true := by decide +kernel
noncomputable def r34_7 : Array Oper := opsAt Try.f34 [1, 1, 1, 1, 0, 0]
theorem r34_7_ok : dstOk 127 r34_7.toList = true ∧ r34_7.toList.all (fun o => noDefer o.op) = true := by decide +kernel
noncomputable def r34_8 : Array Oper := opsAt Try.f34 [1, 1, 1, 1, 0, 1, 0, 0, 0]
theorem r34_8_ok : dstOk 127 r34_8.toList = true ∧ r34_8.toList.all (fun o => noDefer o.op) = true := by decide +kernel
noncomputable def r34_9 : Array Oper := opsAt Try.f34 [1, 1, 1, 1, 0, 1, 0, 0, 1, 1, 0, 0, 0]
theorem r34_9_ok : dstOk 127 r34_9.toList = true ∧ r34_9.toList.all (fun o => noDefer o.op) = true := by decide +kernel
noncomputable def r34_10 : Array Oper := opsAt Try.f34 [1, 1, 1, 1, 0, 1, 0, 0, 1, 1, 0, 0, 1]
theorem r34_10_ok : dstOk 127 r34_10.toList = true ∧ r34_10.toList.all (fun o => noDefer o.op) = true := by decide +kernel
noncomputable def r34_11 : Array Oper := opsAt Try.f34 [1, 1, 1, 1, 0, 1, 0, 0, 1, 1, 1]
theorem r34_11_ok : dstOk 127 r34_11.toList = true ∧ r34_11.toList.all (fun o => noDefer o.op) = true := by decide +kernel
noncomputable def b34_1 : Code := (.seq (.region 8 r34_8 false) (.seq (.cond (.tmp 47) .skip (.exit 2)) (.seq (.block 3 (.seq (.region 9 r34_9 false) (.region 10 r34_10 false))) (.region 11 r34_11 false))))
noncomputable def r34_12 : Array Oper := opsAt Try.f34 [1, 1, 1, 1, 1, 0]
theorem r34_12_ok : dstOk 127 r34_12.toList = true ∧ r34_12.toList.all (fun o => noDefer o.op) = true := by decide +kernel
noncomputable def r34_13 : Array Oper := opsAt Try.f34 [1, 1, 1, 1, 1, 1, 0, 0]
theorem r34_13_ok : dstOk 127 r34_13.toList = true ∧ r34_13.toList.all (fun o => noDefer o.op) = true := by decide +kernel
noncomputable def r34_14 : Array Oper := opsAt Try.f34 [1, 1, 1, 1, 1, 1, 0, 1, 0, 0]
theorem r34_14_ok : dstOk 127 r34_14.toList = true ∧ r34_14.toList.all (fun o => noDefer o.op) = true := by decide +kernel
noncomputable def r34_15 : Array Oper := opsAt Try.f34 [1, 1, 1, 1, 1, 1, 1, 0]
theorem r34_15_ok : dstOk 127 r34_15.toList = true ∧ r34_15.toList.all (fun o => noDefer o.op) = true := by decide +kernel
noncomputable def r34_16 : Array Oper := opsAt Try.f34 [1, 1, 1, 1, 1, 1, 1, 1, 0, 0]
theorem r34_16_ok : dstOk 127 r34_16.toList = true ∧ r34_16.toList.all (fun o => noDefer o.op) = true := by decide +kernel
noncomputable def r34_17 : Array Oper := opsAt Try.f34 [1, 1, 1, 1, 1, 1, 1, 1, 0, 1, 0, 0, 0, 0]
theorem r34_17_ok : dstOk 127 r34_17.toList = true ∧ r34_17.toList.all (fun o => noDefer o.op) = true := by decide +kernel
noncomputable def r34_19 : Array Oper := opsAt Try.f34 [1, 1, 1, 1, 1, 1, 1, 1, 0, 1, 0, 0, 1, 0, 0, 0]
theorem r34_19_ok : dstOk 127 r34_19.toList = true ∧ r34_19.toList.all (fun o => noDefer o.op) = true := by decide +kernel
noncomputable def r34_20 : Array Oper := opsAt Try.f34 [1, 1, 1, 1, 1, 1, 1, 1, 0, 1, 0, 0, 1, 0, 0, 1, 0, 0]
theorem r34_20_ok : dstOk 127 r34_20.toList = true ∧ r34_20.toList.all (fun o => noDefer o.op) = true := by decide +kernel
noncomputable def r34_21 : Array Oper := opsAt Try.f34 [1, 1, 1, 1, 1, 1, 1, 1, 0, 1, 0, 0, 1, 0, 0, 1, 0, 1, 0]
theorem r34_21_ok : dstOk 127 r34_21.toList = true ∧ r34_21.toList.all (fun o => noDefer o.op) = true := by decide +kernel
noncomputable def r34_22 : Array Oper := opsAt Try.f34 [1, 1, 1, 1, 1, 1, 1, 1, 0, 1, 0, 0, 1, 0, 0, 1, 0, 1, 1, 0]
theorem r34_22_ok : dstOk 127 r34_22.toList = true ∧ r34_22.toList.all (fun o => noDefer o.op) = true := by decide +kernel
noncomputable def r34_23 : Array Oper := opsAt Try.f34 [1, 1, 1, 1, 1, 1, 1, 1, 0, 1, 0, 0, 1, 0, 0, 1, 1, 0, 0]
theorem r34_23_ok : dstOk 127 r34_23.toList = true ∧ r34_23.toList.all (fun o => noDefer o.op) = true := by decide +kernel
noncomputable def r34_24 : Array Oper := opsAt Try.f34 [1, 1, 1, 1, 1, 1, 1, 1, 0, 1, 0, 0, 1, 0, 0, 1, 1, 0, 1, 0]
theorem r34_24_ok : dstOk 127 r34_24.toList = true ∧ r34_24.toList.all (fun o => noDefer o.op) = true := by decide +kernel
noncomputable def r34_25 : Array Oper := opsAt Try.f34 [1, 1, 1, 1, 1, 1, 1, 1, 0, 1, 0, 0, 1, 0, 0, 1, 1, 1]
theorem r34_25_ok : dstOk 127 r34_25.toList = true ∧ r34_25.toList.all (fun o => noDefer o.op) = true := by decide +kernel
noncomputable def r34_18 : Array Oper := opsAt Try.f34 [1, 1, 1, 1, 1, 1, 1, 1, 0, 1, 0, 0, 1, 1]
theorem r34_18_ok : dstOk 127 r34_18.toList = true ∧ r34_18.toList.all (fun o => noDefer o.op) = true := by decide +kernel
noncomputable def b34_2 : Code := (.seq (.seq (.region 17 r34_17 false) (.cond (.tmp 73) .skip (.exit 4))) (.seq (.block 5 (.seq (.region 19 r34_19 false) (.seq (.seq (.region 20 r34_20 false) (.seq (.region 21 r34_21 false) (.cond (.tmp 93) (.region 22 r34_22 false) .skip))) (.seq (.seq (.region 23 r34_23 false) (.cond (.tmp 104) (.region 24 r34_24 true) .skip)) (.region 25 r34_25 false))))) (.region 18 r34_18 false)))
noncomputable def r34_26 : Array Oper := opsAt Try.f34 [1, 1, 1, 1, 1, 1, 1, 1, 1, 0]
theorem r34_26_ok : dstOk 127 r34_26.toList = true ∧ r34_26.toList.all (fun o => noDefer o.op) = true := by decide +kernel
noncomputable def c34 : Code := (.seq (.region 0 r34_0 false) (.seq (.region 1 r34_1 false) (.seq (.seq (.region 2 r34_2 false) (.block 0 (.loop b34_0))) (.seq (.region 6 r34_6 false) (.seq (.seq (.region 7 r34_7 false) (.block 2 (.loop b34_1))) (.seq (.region 12 r34_12 false) (.seq (.seq (.region 13 r34_13 false) (.cond (.tmp 63) (.seq (.region 14 r34_14 false) .ret) .skip)) (.seq (.region 15 r34_15 false) (.seq (.seq (.region 16 r34_16 false) (.block 4 (.loop b34_2))) (.seq (.region 26 r34_26 false) .ret))))))))))
theorem body34 : Try.f34.body = some c34 := by kernel_rfl
theorem built_ok (b : B4) (x : CaseR) (hx : x.ok) : PureCall Try.prog GL 34 [caseAV b x] (.tup [planAV b4F (builtF x).1.1, .sl 4 false ((builtF x).1.2.map itemAV), .raw (.bool ((builtF x).2))]) := by
  refine pure_of_body Try.func34 body34 (Nat.le_of_ble_eq_true rfl) (by simp) (by simp) ?_
  refine w_keep [(0, caseAV b x)] ⟨rfl, trivial⟩ ?_
  unfold c34
  have hlv := hx.lv; have hlc := hx.lc; have hlp := hx.lp; have hlu := hx.lu
  refine awp_seq ?_
  refine w_reg (l := r34_0.toList) rfl r34_0_ok ?_
  refine a_op rfl (o_box (N := 0) rfl (by rfl) rfl rfl) ?_
  refine a_op rfl (o_al (N := 1) tz51 rfl rfl rfl) ?_
  refine a_op rfl (o_as rfl) ?_
  refine a_op rfl (o_as rfl) ?_
  refine a_nil ?_
  refine tq_n ?_
  refine awp_seq ?_
  refine w_reg (l := r34_1.toList) rfl r34_1_ok ?_
  refine a_op rfl (o_as rfl) ?_
  refine a_nil ?_
  refine tq_n ?_
  refine awp_seq ?_
  refine awp_seq ?_
  refine w_own (q := 5) (z := 2) (N := 2) (by decide) rfl rfl rfl ?_
  refine w_reg (l := r34_2.toList) rfl r34_2_ok ?_
  refine a_op rfl (o_as rfl) ?_
  refine a_nil ?_
  refine tq_n ?_
  refine awp_block ?_
  refine w_loop (fun i : Nat => i ≤ x.vols.length ∧ i ≤ 40) (fun i => [(1, .ptr 0 0), (2, .ptr 1 0), (5, .slo 2 i 0 i), (6, .raw (.int .i64 ((i : Nat) : Int)))]) (fun i => [.var [.sl 1 b.b0 (x.vols.map u8AV), .sl 1 b.b1 (x.caps.map u8AV), .sl 1 b.b2 (x.picks.map u8AV), .sl 1 b.b3 (x.unread.map u8AV), .raw (.int .u8 x.sweeps)], .var [.raw (.slice none 0 0), .raw (.slice none 0 0), .raw (.slice none 0 0), .raw (.slice none 0 0)], .vec 2 i (((List.range i).map (stopAt x)).map stopAV)]) (fun i => 40 - i) (0) ⟨by simp, by omega⟩ ⟨(by first | exact sub_int rfl (by omega) | rfl), (by first | exact sub_int rfl (by omega) | rfl), (by first | exact sub_int rfl (by omega) | rfl), (by first | exact sub_int rfl (by omega) | rfl), trivial⟩ rfl ?_
  intro i ⟨hp1, hp2⟩
  unfold b34_0
  refine awp_seq ?_
  refine awp_seq ?_
  refine w_reg (l := r34_3.toList) rfl r34_3_ok ?_
  refine a_op rfl (o_mv rfl) ?_
  refine a_op rfl ((by first | exact o_fa tf82_0 rfl rfl | exact o_fap tf82_0 rfl rfl)) ?_
  refine a_op rfl ((by first | exact o_ld tg22 rfl rfl | exact o_ldp tg22 rfl rfl rfl rfl)) ?_
  refine a_op rfl (o_len rfl rfl (by first | exact List.length_map .. | rfl) tl22) ?_
  refine a_if rfl (o_lt rfl rfl) (fun h1 => ?_) (fun h2 => ?_)
  · have hi : i < x.vols.length := by omega
    refine a_op rfl (o_mv rfl) ?_
    refine a_op rfl (o_mv rfl) ?_
    refine a_if rfl (o_lt rfl rfl) (fun h3 => ?_) (fun h4 => ?_)
    · refine a_op rfl (o_pkt rfl rfl) ?_
      refine a_nil ?_
      refine tq_n ?_
      refine w_true rfl ?_
      refine awp_skip ?_
      refine tq_n ?_
      refine awp_seq ?_
      refine awp_block ?_
      have hxi := hx.v _ (List.getElem_mem hi)
      unfold u8r at hxi
      refine w_reg (l := r34_5.toList) rfl r34_5_ok ?_
      refine a_op rfl (o_mv rfl) ?_
      refine a_op rfl (o_mv rfl) ?_
      refine a_op rfl (o_mul rfl rfl (by simp only [klo, khi]; omega)) ?_
      refine a_op rfl (o_sub rfl rfl (by simp only [klo, khi]; omega)) ?_
      refine a_op rfl ((by first | exact o_fa tf82_0 rfl rfl | exact o_fap tf82_0 rfl rfl)) ?_
      refine a_op rfl ((by first | exact o_ld tg22 rfl rfl | exact o_ldp tg22 rfl rfl rfl rfl)) ?_
      refine a_op rfl (o_mv rfl) ?_
      refine a_op rfl (o_ix te22 tn5 rfl rfl rfl (ixm _ _ _ hi)) ?_
      refine a_op rfl ((by first | exact o_ld tg5 rfl rfl | exact o_ldp tg5 rfl rfl rfl rfl)) ?_
      refine a_op rfl (o_rem rfl rfl (by omega) (by omega)) ?_
      refine a_op rfl (o_cv tk5 tk3 rfl (by simp only [klo, khi]; omega)) ?_
      refine a_op rfl (o_add rfl rfl (by simp only [klo, khi]; omega)) ?_
      refine a_op rfl (o_bd tz48 rfl tp48 rfl rfl) ?_
      refine a_op rfl (o_bs tE46 (by decide) rfl rfl rfl) ?_
      refine a_op rfl (o_ap tE46 rfl rfl (by simp) rfl rfl rfl (by simp; omega) (by simp; omega) rfl rfl rfl rfl) ?_
      refine a_op rfl (o_as rfl) ?_
      refine a_nil ?_
      refine bq_n ?_
      refine tq_n ?_
      refine w_reg (l := r34_4.toList) rfl r34_4_ok ?_
      refine a_op rfl (o_mv rfl) ?_
      refine a_op rfl (o_add rfl rfl (by simp only [klo, khi]; omega)) ?_
      refine a_op rfl (o_as rfl) ?_
      refine a_nil ?_
      refine tq_n ?_
      exact ⟨i + 1, ⟨⟨by omega, by omega⟩, by omega⟩, ⟨(by first | exact sub_int rfl (by omega) | rfl), (by first | exact sub_int rfl (by omega) | rfl), (by first | exact sub_int rfl (by omega) | rfl), (by first | exact sub_int rfl (by omega) | rfl), trivial⟩, by rw [range_map_succ, List.map_append, show stopAt x i = ⟨500 - 3 * (i : Int), 1 + x.vols[i] % 4⟩ by rw [stopAt, getDi hi]]; rfl⟩
    refine a_op rfl (o_pkt rfl rfl) ?_
    refine a_nil ?_
    refine tq_n ?_
    refine w_false rfl ?_
    refine awp_exit ?_
    refine tq_x ?_
    refine tq_x ?_
    refine bq_hit ?_
    refine tq_n ?_
    refine awp_seq ?_
    have hls : (List.range i).map (stopAt x) = stopsF x := by rw [stopsF, show i = min x.vols.length 40 by omega]
    have hil : i = (stopsF x).length := by rw [← hls]; simp
    refine w_heq (H1 := [.var [.sl 1 b.b0 (x.vols.map u8AV), .sl 1 b.b1 (x.caps.map u8AV), .sl 1 b.b2 (x.picks.map u8AV), .sl 1 b.b3 (x.unread.map u8AV), .raw (.int .u8 x.sweeps)], .var [.raw (.slice none 0 0), .raw (.slice none 0 0), .raw (.slice none 0 0), .raw (.slice none 0 0)], .vec 2 (stopsF x).length ((stopsF x).map stopAV)]) (by rw [hls, hil]) ?_
    refine w_keep [(1, .ptr 0 0), (2, .ptr 1 0), (5, .slo 2 (stopsF x).length 0 (stopsF x).length)] ⟨rfl, rfl, sub_eq rfl (by rw [hil]), trivial⟩ ?_
    refine w_reg (l := r34_6.toList) rfl r34_6_ok ?_
    refine a_op rfl ((by first | exact o_fa tf82_1 rfl rfl | exact o_fap tf82_1 rfl rfl)) ?_
    refine a_op rfl ((by first | exact o_ld tg22 rfl rfl | exact o_ldp tg22 rfl rfl rfl rfl)) ?_
    refine a_callO rfl rfl rfl cb27 (by simp) (machO_ok _ x.caps (by omega) hx.c) ?_
    rintro r0 G0 ⟨v, rfl, rfl⟩
    refine ⟨.slo 4 v 0 (machF x.caps).length, [.vec 1 0 [], .vec 1 v ((machF x.caps).map intAV)], .slo, shh ⟨sho_vec (by simp), sho_vec (pu_int _), trivial⟩, ?_⟩
    refine a_op rfl (o_as rfl) ?_
    refine a_nil ?_
    refine tq_n ?_
    refine awp_seq ?_
    refine awp_seq ?_
    obtain ⟨hm0, hm1, hm2⟩ := machF_in hx.c
    refine w_reg (l := r34_7.toList) rfl r34_7_ok ?_
    refine a_op rfl (o_mv rfl) ?_
    refine a_op rfl (o_len (q := (machF x.caps).length) (j := (machF x.caps).length) rfl (by simp [lenAV]) rfl tl34) ?_
    refine a_op rfl (o_mv rfl) ?_
    refine a_nil ?_
    refine tq_n ?_
    refine awp_block ?_
    refine w_loop (fun i : Nat => i ≤ (machF x.caps).length) (fun i => [(1, .ptr 0 0), (2, .ptr 1 0), (5, .slo 2 (stopsF x).length 0 (stopsF x).length), (7, .slo 4 v 0 (machF x.caps).length), (44, .slo 4 v 0 (machF x.caps).length), (45, .raw (.int .i64 (((machF x.caps).length : Nat) : Int))), (46, .raw (.int .i64 ((i : Nat) : Int)))]) (fun i => [.var [.sl 1 b.b0 (x.vols.map u8AV), .sl 1 b.b1 (x.caps.map u8AV), .sl 1 b.b2 (x.picks.map u8AV), .sl 1 b.b3 (x.unread.map u8AV), .raw (.int .u8 x.sweeps)], .var [.raw (.slice none 0 0), .raw (.slice none 0 0), .raw (.slice none 0 0), .raw (.slice none 0 0)], .vec 2 (stopsF x).length ((stopsF x).map stopAV), .vec 1 0 [], .vec 1 v ((add4 (machF x.caps) i).map intAV)]) (fun i => (machF x.caps).length - i) (0) (by simp) ⟨(by first | exact sub_int rfl (by omega) | rfl), (by first | exact sub_int rfl (by omega) | rfl), (by first | exact sub_int rfl (by omega) | rfl), (by first | exact sub_int rfl (by omega) | rfl), (by first | exact sub_int rfl (by omega) | rfl), (by first | exact sub_int rfl (by omega) | rfl), (by first | exact sub_int rfl (by omega) | rfl), trivial⟩ (by rw [add4_zero]; rfl) ?_
    intro i hp
    unfold b34_1
    refine awp_seq ?_
    refine w_reg (l := r34_8.toList) rfl r34_8_ok ?_
    refine a_if rfl (o_lt rfl rfl) (fun h5 => ?_) (fun h6 => ?_)
    · refine a_nil ?_
      refine tq_n ?_
      refine awp_seq ?_
      refine w_true rfl ?_
      refine awp_skip ?_
      refine tq_n ?_
      refine awp_seq ?_
      refine awp_block ?_
      refine awp_seq ?_
      have hi : i < (machF x.caps).length := by omega
      have hil2 : i < (add4 (machF x.caps) i).length := by rw [add4_len]; exact hi
      have hg4 := add4_get hi
      have hb4 := hm2 _ (List.getElem_mem hi)
      have hat : ((add4 (machF x.caps) i).map intAV)[0 + i]? = some (intAV (machF x.caps)[i]) := by rw [Nat.zero_add, mAt hil2, hg4]
      refine w_reg (l := r34_9.toList) rfl r34_9_ok ?_
      refine a_op rfl (o_mv rfl) ?_
      refine a_op rfl (o_as rfl) ?_
      refine a_nil ?_
      refine tq_n ?_
      refine w_reg (l := r34_10.toList) rfl r34_10_ok ?_
      refine a_op rfl (o_mv rfl) ?_
      refine a_op rfl (o_mv rfl) ?_
      refine a_op rfl (o_ixo (j := i) te34 tn3 rfl rfl rfl rfl hi) ?_
      refine a_op rfl (o_ldp (el := intAV (machF x.caps)[i]) tg3 rfl rfl hat rfl) ?_
      refine a_op rfl (o_add rfl rfl (by simp only [klo, khi]; omega)) ?_
      refine a_op rfl (o_ixo (j := i) te34 tn3 rfl rfl rfl rfl hi) ?_
      refine a_opH0 rfl (o_stp (N := 0) (el := intAV (machF x.caps)[i]) tn3 rfl rfl rfl rfl rfl hat rfl (Nat.le_refl _)) (H' := [.var [.sl 1 b.b0 (x.vols.map u8AV), .sl 1 b.b1 (x.caps.map u8AV), .sl 1 b.b2 (x.picks.map u8AV), .sl 1 b.b3 (x.unread.map u8AV), .raw (.int .u8 x.sweeps)], .var [.raw (.slice none 0 0), .raw (.slice none 0 0), .raw (.slice none 0 0), .raw (.slice none 0 0)], .vec 2 (stopsF x).length ((stopsF x).map stopAV), .vec 1 0 [], .vec 1 v ((add4 (machF x.caps) (i + 1)).map intAV)]) (by rw [Nat.zero_add, ← add4_set hi, List.map_set]; rfl) ?_
      refine a_nil ?_
      refine bq_n ?_
      refine tq_n ?_
      refine w_reg (l := r34_11.toList) rfl r34_11_ok ?_
      refine a_op rfl (o_add rfl rfl (by simp only [klo, khi]; omega)) ?_
      refine a_op rfl (o_mv rfl) ?_
      refine a_nil ?_
      refine tq_n ?_
      exact ⟨i + 1, ⟨by omega, by omega⟩, ⟨(by first | exact sub_int rfl (by omega) | rfl), (by first | exact sub_int rfl (by omega) | rfl), (by first | exact sub_int rfl (by omega) | rfl), (by first | exact sub_int rfl (by omega) | rfl), (by first | exact sub_int rfl (by omega) | rfl), (by first | exact sub_int rfl (by omega) | rfl), (by first | exact sub_int rfl (by omega) | rfl), trivial⟩, rfl⟩
    refine a_nil ?_
    refine tq_n ?_
    refine awp_seq ?_
    refine w_false rfl ?_
    refine awp_exit ?_
    refine tq_x ?_
    refine tq_x ?_
    refine bq_hit ?_
    refine tq_n ?_
    refine awp_seq ?_
    refine w_heq (H1 := [.var [.sl 1 b.b0 (x.vols.map u8AV), .sl 1 b.b1 (x.caps.map u8AV), .sl 1 b.b2 (x.picks.map u8AV), .sl 1 b.b3 (x.unread.map u8AV), .raw (.int .u8 x.sweeps)], .var [.raw (.slice none 0 0), .raw (.slice none 0 0), .raw (.slice none 0 0), .raw (.slice none 0 0)], .vec 2 (stopsF x).length ((stopsF x).map stopAV), .vec 1 0 [], .vec 1 v ((capsF x).map intAV)]) (by rw [show i = (machF x.caps).length by omega, add4_all]; rfl) ?_
    refine w_reg (l := r34_12.toList) rfl r34_12_ok ?_
    refine a_op rfl (o_mv rfl) ?_
    refine a_op rfl (o_mv rfl) ?_
    refine a_lendF (vs' := [.sl 2 fL ((stopsF x).map stopAV), .sl 1 fL ((capsF x).map intAV)]) rfl rfl rfl cb24 (make_ok _ _ (by have := stopsF_len x; omega) _ _ (by simp [capsF]; omega)) ⟨ln_slo (i := 2) rfl (by simp) (pu_stop _) rfl, ln_slo (i := 4) rfl (by simp [capsF]) (pu_int _) rfl, trivial⟩ (by simp [planAV, planC, intAV, seatAV, b4F]) ?_
    rw [show makeF (stopsF x) (capsF x) = planF x from rfl]
    refine a_op rfl (o_mv rfl) ?_
    refine a_op rfl (o_ex rfl rfl) ?_
    refine a_op rfl (o_ex rfl rfl) ?_
    refine a_op rfl (o_al (N := 5) tz51 rfl rfl rfl) ?_
    refine a_op0 rfl (o_st (N := 3) tn51 rfl rfl (by first | exact good_slo rfl | rfl) rfl rfl) ?_
    refine a_op rfl (o_as rfl) ?_
    refine a_nil ?_
    refine tq_n ?_
    refine awp_seq ?_
    refine awp_seq ?_
    refine w_reg (l := r34_13.toList) rfl r34_13_ok ?_
    refine a_op rfl (o_mv rfl) ?_
    refine a_if rfl (o_ne rfl rfl) (fun h7 => ?_) (fun h8 => ?_)
    · refine a_nil ?_
      refine tq_n ?_
      refine w_true rfl ?_
      refine awp_seq ?_
      refine w_reg (l := r34_14.toList) rfl r34_14_ok ?_
      refine a_op rfl ((by first | exact o_ldg tg51 tn51 rfl rfl | exact o_ldpg tg51 tn51 rfl rfl rfl rfl)) ?_
      refine a_op0 rfl (o_st (N := 3) tn51 rfl rfl (by first | exact good_slo rfl | rfl) rfl rfl) ?_
      refine a_op rfl (o_as rfl) ?_
      refine a_op rfl (o_as rfl) ?_
      refine a_nil ?_
      refine tq_n ?_
      refine awp_ret ?_
      refine tq_r ?_
      refine r_tup (xs := [_]) rfl ⟨c_ag tg51 tn51 rfl rfl, rfl, rfl, trivial⟩ ?_
      have hr : builtF x = (((planF x).1, []), false) := by rw [builtF, if_neg (by assumption)]
      rw [hr]
      exact rs_tup ⟨rs_pur (by simp) rfl, .nil (by decide), .raw _, trivial⟩
    refine a_nil ?_
    refine tq_n ?_
    refine w_false rfl ?_
    refine awp_skip ?_
    refine tq_n ?_
    refine awp_seq ?_
    refine w_reg (l := r34_15.toList) rfl r34_15_ok ?_
    refine a_op rfl (o_as rfl) ?_
    refine a_nil ?_
    refine tq_n ?_
    refine awp_seq ?_
    refine awp_seq ?_
    refine w_own (q := 11) (z := 4) (N := 6) (by decide) rfl rfl rfl ?_
    refine w_reg (l := r34_16.toList) rfl r34_16_ok ?_
    refine a_op rfl (o_as rfl) ?_
    refine a_nil ?_
    refine tq_n ?_
    refine awp_block ?_
    refine w_loop (fun i : Nat => i ≤ x.picks.length ∧ i ≤ 200) (fun i => [(1, .ptr 0 0), (2, .ptr 1 0), (5, .slo 2 (stopsF x).length 0 (stopsF x).length), (9, .ptr 5 0), (11, .slo 6 i 0 i), (12, .raw (.int .i64 ((i : Nat) : Int)))]) (fun i => [.var [.sl 1 b.b0 (x.vols.map u8AV), .sl 1 b.b1 (x.caps.map u8AV), .sl 1 b.b2 (x.picks.map u8AV), .sl 1 b.b3 (x.unread.map u8AV), .raw (.int .u8 x.sweeps)], .var [.raw (.slice none 0 0), .raw (.slice none 0 0), .raw (.slice none 0 0), .raw (.slice none 0 0)], .vec 2 (stopsF x).length ((stopsF x).map stopAV), .vec 1 0 [], .vec 1 v ((capsF x).map intAV), .var (planC b4F (planF x).1), .vec 4 i (((List.range i).map (itemAt x)).map itemAV)]) (fun i => 200 - i) (0) ⟨by simp, by omega⟩ ⟨(by first | exact sub_int rfl (by omega) | rfl), (by first | exact sub_int rfl (by omega) | rfl), (by first | exact sub_int rfl (by omega) | rfl), (by first | exact sub_int rfl (by omega) | rfl), (by first | exact sub_int rfl (by omega) | rfl), (by first | exact sub_int rfl (by omega) | rfl), trivial⟩ rfl ?_
    intro i ⟨hp1, hp2⟩
    unfold b34_2
    refine awp_seq ?_
    refine awp_seq ?_
    refine w_reg (l := r34_17.toList) rfl r34_17_ok ?_
    refine a_op rfl (o_mv rfl) ?_
    refine a_op rfl ((by first | exact o_fa tf82_2 rfl rfl | exact o_fap tf82_2 rfl rfl)) ?_
    refine a_op rfl ((by first | exact o_ld tg22 rfl rfl | exact o_ldp tg22 rfl rfl rfl rfl)) ?_
    refine a_op rfl (o_len rfl rfl (by first | exact List.length_map .. | rfl) tl22) ?_
    refine a_if rfl (o_lt rfl rfl) (fun h9 => ?_) (fun h10 => ?_)
    · have hi : i < x.picks.length := by omega
      refine a_op rfl (o_mv rfl) ?_
      refine a_op rfl (o_mv rfl) ?_
      refine a_if rfl (o_lt rfl rfl) (fun h11 => ?_) (fun h12 => ?_)
      · refine a_op rfl (o_pkt rfl rfl) ?_
        refine a_nil ?_
        refine tq_n ?_
        refine w_true rfl ?_
        refine awp_skip ?_
        refine tq_n ?_
        refine awp_seq ?_
        refine awp_block ?_
        refine awp_seq ?_
        have hxi := hx.p _ (List.getElem_mem hi)
        unfold u8r at hxi
        have hsl := stopsF_len x
        obtain ⟨n, hn⟩ : ∃ n : Nat, x.picks[i] % ((((stopsF x).length : Nat) : Int) + 1) = n := ⟨(x.picks[i] % ((((stopsF x).length : Nat) : Int) + 1)).toNat, by have := Int.emod_nonneg x.picks[i] (show ((((stopsF x).length : Nat) : Int) + 1) ≠ 0 by omega); omega⟩
        have hng : (x.picks[i] % ((((stopsF x).length : Nat) : Int) + 1)).toNat = n := by omega
        refine w_reg (l := r34_19.toList) rfl r34_19_ok ?_
        refine a_op rfl (o_mv rfl) ?_
        refine a_op rfl (o_mul rfl rfl (by simp only [klo, khi]; omega)) ?_
        refine a_op rfl (o_add rfl rfl (by simp only [klo, khi]; omega)) ?_
        refine a_op rfl (o_bd tz45 rfl tp45 rfl rfl) ?_
        refine a_op rfl (o_al (N := 7) tz45 rfl rfl rfl) ?_
        refine a_op0 rfl (o_st (N := 3) tn45 rfl rfl (by first | exact good_slo rfl | rfl) rfl rfl) ?_
        refine a_nil ?_
        refine tq_n ?_
        refine awp_seq ?_
        refine awp_seq ?_
        refine w_reg (l := r34_20.toList) rfl r34_20_ok ?_
        refine a_op rfl ((by first | exact o_fa tf82_2 rfl rfl | exact o_fap tf82_2 rfl rfl)) ?_
        refine a_op rfl ((by first | exact o_ld tg22 rfl rfl | exact o_ldp tg22 rfl rfl rfl rfl)) ?_
        refine a_op rfl (o_mv rfl) ?_
        refine a_op rfl (o_ix te22 tn5 rfl rfl rfl (ixm _ _ _ hi)) ?_
        refine a_op rfl ((by first | exact o_ld tg5 rfl rfl | exact o_ldp tg5 rfl rfl rfl rfl)) ?_
        refine a_op rfl (o_cv tk5 tk3 rfl (by simp only [klo, khi]; omega)) ?_
        refine a_op rfl (o_mv rfl) ?_
        refine a_op rfl (o_len (q := (stopsF x).length) (j := (stopsF x).length) rfl (by simp [lenAV]) rfl tl46) ?_
        refine a_op rfl (o_add rfl rfl (by simp only [klo, khi]; omega)) ?_
        refine a_op rfl (o_rem rfl rfl (by omega) (by omega)) ?_
        refine a_op rfl (o_as rfl) ?_
        refine a_nil ?_
        refine tq_n ?_
        refine awp_seq ?_
        refine w_reg (l := r34_21.toList) rfl r34_21_ok ?_
        refine a_op rfl (o_mv rfl) ?_
        refine a_op rfl (o_mv rfl) ?_
        refine a_op rfl (o_len (q := (stopsF x).length) (j := (stopsF x).length) rfl (by simp [lenAV]) rfl tl46) ?_
        refine a_if rfl (o_lt rfl rfl) (fun h13 => ?_) (fun h14 => ?_)
        · refine a_nil ?_
          refine tq_n ?_
          refine w_true rfl ?_
          have hns : n < (stopsF x).length := by omega
          refine w_reg (l := r34_22.toList) rfl r34_22_ok ?_
          refine a_op rfl (o_mv rfl) ?_
          refine a_op rfl (o_mv rfl) ?_
          refine a_op rfl (o_ixo (j := n) te46 tn48 rfl rfl rfl hn hns) ?_
          refine a_op rfl (o_fap tf48_0 rfl rfl) ?_
          refine a_op rfl (o_ldp (el := stopAV (stopsF x)[n]) tg3 rfl rfl (by rw [Nat.zero_add]; exact mAt hns) rfl) ?_
          refine a_op rfl ((by first | exact o_fa tf45_1 rfl rfl | exact o_fap tf45_1 rfl rfl)) ?_
          refine a_op0 rfl (o_st (N := 0) tn3 rfl rfl (by first | exact good_slo rfl | rfl) rfl rfl) ?_
          refine a_nil ?_
          refine tq_n ?_
          refine awp_seq ?_
          refine awp_seq ?_
          refine w_reg (l := r34_23.toList) rfl r34_23_ok ?_
          refine a_op rfl (o_mv rfl) ?_
          refine a_op rfl ((by first | exact o_fa tf82_3 rfl rfl | exact o_fap tf82_3 rfl rfl)) ?_
          refine a_op rfl ((by first | exact o_ld tg22 rfl rfl | exact o_ldp tg22 rfl rfl rfl rfl)) ?_
          refine a_op rfl (o_len rfl rfl (by first | exact List.length_map .. | rfl) tl22) ?_
          refine a_if rfl (o_lt rfl rfl) (fun h15 => ?_) (fun h16 => ?_)
          · refine a_nil ?_
            refine tq_n ?_
            refine w_true rfl ?_
            have hui : i < x.unread.length := by omega
            have hxu := hx.u _ (List.getElem_mem hui)
            unfold u8r at hxu
            refine awp_draw ⟨[[], [0], [], [0, 1, 2], [0, 1, 2, 3], [0, 1, 2, 3, 4], [0, 1, 2, 3, 4, 5], [], [7], [], [7, 8, 9], [7, 8, 9, 10], [7, 8, 9, 10, 11], [7, 8, 9, 10, 11, 12], [0, 1, 2, 3, 4, 5, 6], [0, 1, 2, 3, 4, 5, 6, 14], [0, 1, 2, 3, 4, 5, 6, 7, 8, 9, 10, 11, 12, 13, 14, 15], [0, 1, 2, 3, 4, 5, 6, 7, 8, 9, 10, 11, 12, 13, 14, 15, 16]], [[1], [105], [12], [106, 107], [108], [109], [110], [1], [112], [12], [113, 114], [115], [116], [117], [13], [111, 119], [13], [118, 120]], [[], [0], [], [], [], [], [], [], [0], [], [], [], [], [], [], [7], [], [7]], [none, none, none, none, none, none, none, none, none, none, none, none, none, none, none, some 7, none, some 7]⟩ mo r34_24_ok (by decide +kernel) (l := r34_24.toList) rfl ?_
            refine d_op rfl rfl rfl (fun _ => (by first | exact o_fa tf82_3 rfl rfl | exact o_fap tf82_3 rfl rfl)) ?_
            refine d_op rfl rfl rfl (fun _ => (by first | exact o_ld tg22 rfl rfl | exact o_ldp tg22 rfl rfl rfl rfl)) ?_
            refine d_op rfl rfl rfl (fun _ => o_mv rfl) ?_
            refine d_op rfl rfl rfl (fun _ => o_ix te22 tn5 rfl rfl rfl (ixm _ _ _ hui)) ?_
            refine d_op rfl rfl rfl (fun _ => (by first | exact o_ld tg5 rfl rfl | exact o_ldp tg5 rfl rfl rfl rfl)) ?_
            refine d_op rfl rfl rfl (fun _ => o_rem rfl rfl (by omega) (by omega)) ?_
            refine d_op rfl rfl rfl (fun _ => o_ne rfl rfl) ?_
            refine d_op rfl rfl rfl (fun _ => (by first | exact o_fa tf82_3 rfl rfl | exact o_fap tf82_3 rfl rfl)) ?_
            refine d_op rfl rfl rfl (fun _ => (by first | exact o_ld tg22 rfl rfl | exact o_ldp tg22 rfl rfl rfl rfl)) ?_
            refine d_op rfl rfl rfl (fun _ => o_mv rfl) ?_
            refine d_op rfl rfl rfl (fun _ => o_ix te22 tn5 rfl rfl rfl (ixm _ _ _ hui)) ?_
            refine d_op rfl rfl rfl (fun _ => (by first | exact o_ld tg5 rfl rfl | exact o_ldp tg5 rfl rfl rfl rfl)) ?_
            refine d_op rfl rfl rfl (fun _ => o_rem rfl rfl (by omega) (by omega)) ?_
            refine d_op rfl rfl rfl (fun _ => o_ne rfl rfl) ?_
            refine d_op rfl rfl rfl (fun _ => (by first | exact o_fa tf45_2 rfl rfl | exact o_fap tf45_2 rfl rfl)) ?_
            refine d_w0 rfl rfl rfl (fun _ => o_stD (N := 0) tn4 rfl rfl (by first | exact good_slo rfl | rfl) rfl rfl rfl) rfl rfl rfl ?_
            refine d_op rfl rfl rfl (fun _ => (by first | exact o_fa tf45_3 rfl rfl | exact o_fap tf45_3 rfl rfl)) ?_
            refine d_w0 rfl rfl rfl (fun _ => o_stD (N := 0) tn4 rfl rfl (by first | exact good_slo rfl | rfl) rfl rfl rfl) rfl rfl rfl ?_
            refine d_nil ?_
            refine tq_n ?_
            refine w_reg (l := r34_25.toList) rfl r34_25_ok ?_
            refine a_op rfl (o_mv rfl) ?_
            refine a_op rfl ((by first | exact o_ldg tg45 tn45 rfl rfl | exact o_ldpg tg45 tn45 rfl rfl rfl rfl)) ?_
            refine a_op rfl (o_bs tE43 (by decide) rfl rfl rfl) ?_
            refine a_op rfl (o_ap tE43 rfl rfl (by simp) rfl rfl rfl (by simp; omega) (by simp; omega) rfl rfl rfl rfl) ?_
            refine a_op rfl (o_as rfl) ?_
            refine a_nil ?_
            refine bq_n ?_
            refine tq_n ?_
            have hit : itemAt x i = ⟨1 + 7 * (i : Int), (stopsF x)[n].id, decide (x.unread[i] % 8 ≠ 0), decide (x.unread[i] % 8 ≠ 1)⟩ := by
              simp only [itemAt, hng, getDi hi, getDi hui]
              rw [if_pos hns, getDg hns, if_pos hui, if_pos hui]
            refine w_heq (H1 := [.var [.sl 1 b.b0 (x.vols.map u8AV), .sl 1 b.b1 (x.caps.map u8AV), .sl 1 b.b2 (x.picks.map u8AV), .sl 1 b.b3 (x.unread.map u8AV), .raw (.int .u8 x.sweeps)], .var [.raw (.slice none 0 0), .raw (.slice none 0 0), .raw (.slice none 0 0), .raw (.slice none 0 0)], .vec 2 (stopsF x).length ((stopsF x).map stopAV), .vec 1 0 [], .vec 1 v ((capsF x).map intAV), .var (planC b4F (planF x).1), .vec 4 (i + 1) ((((List.range i).map (itemAt x)).map itemAV) ++ [itemAV ⟨1 + 7 * (i : Int), (stopsF x)[n].id, decide (x.unread[i] % 8 ≠ 0), decide (x.unread[i] % 8 ≠ 1)⟩]), .var (itemAV ⟨1 + 7 * (i : Int), (stopsF x)[n].id, decide (x.unread[i] % 8 ≠ 0), decide (x.unread[i] % 8 ≠ 1)⟩).cells]) rfl ?_
            refine w_view [(1, .ptr 0 0), (2, .ptr 1 0), (5, .slo 2 (stopsF x).length 0 (stopsF x).length), (9, .ptr 5 0), (11, .slo 6 (i + 1) 0 (i + 1)), (12, .raw (.int .i64 ((i : Nat) : Int)))] [.var [.sl 1 b.b0 (x.vols.map u8AV), .sl 1 b.b1 (x.caps.map u8AV), .sl 1 b.b2 (x.picks.map u8AV), .sl 1 b.b3 (x.unread.map u8AV), .raw (.int .u8 x.sweeps)], .var [.raw (.slice none 0 0), .raw (.slice none 0 0), .raw (.slice none 0 0), .raw (.slice none 0 0)], .vec 2 (stopsF x).length ((stopsF x).map stopAV), .vec 1 0 [], .vec 1 v ((capsF x).map intAV), .var (planC b4F (planF x).1), .vec 4 (i + 1) ((((List.range i).map (itemAt x)).map itemAV) ++ [itemAV ⟨1 + 7 * (i : Int), (stopsF x)[n].id, decide (x.unread[i] % 8 ≠ 0), decide (x.unread[i] % 8 ≠ 1)⟩])] 7 rfl (Nat.le_of_ble_eq_true rfl) (Nat.le_of_ble_eq_true rfl) ⟨⟨_, rfl, (by first | exact .mpK (Nat.le_of_ble_eq_true rfl) | exact .sloK (Nat.le_of_ble_eq_true rfl) | exact .ptrK (Nat.le_of_ble_eq_true rfl) | exact rs_pur (by simp) rfl)⟩, ⟨_, rfl, (by first | exact .mpK (Nat.le_of_ble_eq_true rfl) | exact .sloK (Nat.le_of_ble_eq_true rfl) | exact .ptrK (Nat.le_of_ble_eq_true rfl) | exact rs_pur (by simp) rfl)⟩, ⟨_, rfl, (by first | exact .mpK (Nat.le_of_ble_eq_true rfl) | exact .sloK (Nat.le_of_ble_eq_true rfl) | exact .ptrK (Nat.le_of_ble_eq_true rfl) | exact rs_pur (by simp) rfl)⟩, ⟨_, rfl, (by first | exact .mpK (Nat.le_of_ble_eq_true rfl) | exact .sloK (Nat.le_of_ble_eq_true rfl) | exact .ptrK (Nat.le_of_ble_eq_true rfl) | exact rs_pur (by simp) rfl)⟩, ⟨_, rfl, (by first | exact .mpK (Nat.le_of_ble_eq_true rfl) | exact .sloK (Nat.le_of_ble_eq_true rfl) | exact .ptrK (Nat.le_of_ble_eq_true rfl) | exact rs_pur (by simp) rfl)⟩, ⟨_, rfl, (by first | exact .mpK (Nat.le_of_ble_eq_true rfl) | exact .sloK (Nat.le_of_ble_eq_true rfl) | exact .ptrK (Nat.le_of_ble_eq_true rfl) | exact rs_pur (by simp) rfl)⟩, trivial⟩ ⟨ors_var ⟨rs_pur (by simp) rfl, rs_pur (by simp) rfl, rs_pur (by simp) rfl, rs_pur (by simp) rfl, rs_pur (by simp) rfl, trivial⟩, ors_var ⟨rs_pur (by simp) rfl, rs_pur (by simp) rfl, rs_pur (by simp) rfl, rs_pur (by simp) rfl, trivial⟩, ors_vec (pu_stop _), ors_vec (by simp), ors_vec (pu_int _), ors_var ⟨rs_pur (by simp) rfl, rs_pur (by simp) rfl, rs_pur (by simp) rfl, rs_pur (by simp) rfl, trivial⟩, ors_vec (pu_item1 _ _), trivial⟩ ?_
            refine w_reg (l := r34_18.toList) rfl r34_18_ok ?_
            refine a_op rfl (o_mv rfl) ?_
            refine a_op rfl (o_add rfl rfl (by simp only [klo, khi]; omega)) ?_
            refine a_op rfl (o_as rfl) ?_
            refine a_nil ?_
            refine tq_n ?_
            exact ⟨i + 1, ⟨⟨by omega, by omega⟩, by omega⟩, ⟨(by first | exact sub_int rfl (by omega) | rfl), (by first | exact sub_int rfl (by omega) | rfl), (by first | exact sub_int rfl (by omega) | rfl), (by first | exact sub_int rfl (by omega) | rfl), (by first | exact sub_int rfl (by omega) | rfl), (by first | exact sub_int rfl (by omega) | rfl), trivial⟩, by rw [range_map_succ, List.map_append, hit]; rfl⟩
          refine a_nil ?_
          refine tq_n ?_
          refine w_false rfl ?_
          refine awp_skip ?_
          refine tq_n ?_
          refine w_reg (l := r34_25.toList) rfl r34_25_ok ?_
          refine a_op rfl (o_mv rfl) ?_
          refine a_op rfl ((by first | exact o_ldg tg45 tn45 rfl rfl | exact o_ldpg tg45 tn45 rfl rfl rfl rfl)) ?_
          refine a_op rfl (o_bs tE43 (by decide) rfl rfl rfl) ?_
          refine a_op rfl (o_ap tE43 rfl rfl (by simp) rfl rfl rfl (by simp; omega) (by simp; omega) rfl rfl rfl rfl) ?_
          refine a_op rfl (o_as rfl) ?_
          refine a_nil ?_
          refine bq_n ?_
          refine tq_n ?_
          have hit : itemAt x i = ⟨1 + 7 * (i : Int), (stopsF x)[n].id, true, true⟩ := by
            simp only [itemAt, hng, getDi hi]
            rw [if_pos hns, getDg hns, if_neg (by omega), if_neg (by omega)]
          refine w_heq (H1 := [.var [.sl 1 b.b0 (x.vols.map u8AV), .sl 1 b.b1 (x.caps.map u8AV), .sl 1 b.b2 (x.picks.map u8AV), .sl 1 b.b3 (x.unread.map u8AV), .raw (.int .u8 x.sweeps)], .var [.raw (.slice none 0 0), .raw (.slice none 0 0), .raw (.slice none 0 0), .raw (.slice none 0 0)], .vec 2 (stopsF x).length ((stopsF x).map stopAV), .vec 1 0 [], .vec 1 v ((capsF x).map intAV), .var (planC b4F (planF x).1), .vec 4 (i + 1) ((((List.range i).map (itemAt x)).map itemAV) ++ [itemAV ⟨1 + 7 * (i : Int), (stopsF x)[n].id, true, true⟩]), .var (itemAV ⟨1 + 7 * (i : Int), (stopsF x)[n].id, true, true⟩).cells]) rfl ?_
          refine w_view [(1, .ptr 0 0), (2, .ptr 1 0), (5, .slo 2 (stopsF x).length 0 (stopsF x).length), (9, .ptr 5 0), (11, .slo 6 (i + 1) 0 (i + 1)), (12, .raw (.int .i64 ((i : Nat) : Int)))] [.var [.sl 1 b.b0 (x.vols.map u8AV), .sl 1 b.b1 (x.caps.map u8AV), .sl 1 b.b2 (x.picks.map u8AV), .sl 1 b.b3 (x.unread.map u8AV), .raw (.int .u8 x.sweeps)], .var [.raw (.slice none 0 0), .raw (.slice none 0 0), .raw (.slice none 0 0), .raw (.slice none 0 0)], .vec 2 (stopsF x).length ((stopsF x).map stopAV), .vec 1 0 [], .vec 1 v ((capsF x).map intAV), .var (planC b4F (planF x).1), .vec 4 (i + 1) ((((List.range i).map (itemAt x)).map itemAV) ++ [itemAV ⟨1 + 7 * (i : Int), (stopsF x)[n].id, true, true⟩])] 7 rfl (Nat.le_of_ble_eq_true rfl) (Nat.le_of_ble_eq_true rfl) ⟨⟨_, rfl, (by first | exact .mpK (Nat.le_of_ble_eq_true rfl) | exact .sloK (Nat.le_of_ble_eq_true rfl) | exact .ptrK (Nat.le_of_ble_eq_true rfl) | exact rs_pur (by simp) rfl)⟩, ⟨_, rfl, (by first | exact .mpK (Nat.le_of_ble_eq_true rfl) | exact .sloK (Nat.le_of_ble_eq_true rfl) | exact .ptrK (Nat.le_of_ble_eq_true rfl) | exact rs_pur (by simp) rfl)⟩, ⟨_, rfl, (by first | exact .mpK (Nat.le_of_ble_eq_true rfl) | exact .sloK (Nat.le_of_ble_eq_true rfl) | exact .ptrK (Nat.le_of_ble_eq_true rfl) | exact rs_pur (by simp) rfl)⟩, ⟨_, rfl, (by first | exact .mpK (Nat.le_of_ble_eq_true rfl) | exact .sloK (Nat.le_of_ble_eq_true rfl) | exact .ptrK (Nat.le_of_ble_eq_true rfl) | exact rs_pur (by simp) rfl)⟩, ⟨_, rfl, (by first | exact .mpK (Nat.le_of_ble_eq_true rfl) | exact .sloK (Nat.le_of_ble_eq_true rfl) | exact .ptrK (Nat.le_of_ble_eq_true rfl) | exact rs_pur (by simp) rfl)⟩, ⟨_, rfl, (by first | exact .mpK (Nat.le_of_ble_eq_true rfl) | exact .sloK (Nat.le_of_ble_eq_true rfl) | exact .ptrK (Nat.le_of_ble_eq_true rfl) | exact rs_pur (by simp) rfl)⟩, trivial⟩ ⟨ors_var ⟨rs_pur (by simp) rfl, rs_pur (by simp) rfl, rs_pur (by simp) rfl, rs_pur (by simp) rfl, rs_pur (by simp) rfl, trivial⟩, ors_var ⟨rs_pur (by simp) rfl, rs_pur (by simp) rfl, rs_pur (by simp) rfl, rs_pur (by simp) rfl, trivial⟩, ors_vec (pu_stop _), ors_vec (by simp), ors_vec (pu_int _), ors_var ⟨rs_pur (by simp) rfl, rs_pur (by simp) rfl, rs_pur (by simp) rfl, rs_pur (by simp) rfl, trivial⟩, ors_vec (pu_item1 _ _), trivial⟩ ?_
          refine w_reg (l := r34_18.toList) rfl r34_18_ok ?_
          refine a_op rfl (o_mv rfl) ?_
          refine a_op rfl (o_add rfl rfl (by simp only [klo, khi]; omega)) ?_
          refine a_op rfl (o_as rfl) ?_
          refine a_nil ?_
          refine tq_n ?_
          exact ⟨i + 1, ⟨⟨by omega, by omega⟩, by omega⟩, ⟨(by first | exact sub_int rfl (by omega) | rfl), (by first | exact sub_int rfl (by omega) | rfl), (by first | exact sub_int rfl (by omega) | rfl), (by first | exact sub_int rfl (by omega) | rfl), (by first | exact sub_int rfl (by omega) | rfl), (by first | exact sub_int rfl (by omega) | rfl), trivial⟩, by rw [range_map_succ, List.map_append, hit]; rfl⟩
        refine a_nil ?_
        refine tq_n ?_
        refine w_false rfl ?_
        refine awp_skip ?_
        refine tq_n ?_
        refine awp_seq ?_
        refine awp_seq ?_
        refine w_reg (l := r34_23.toList) rfl r34_23_ok ?_
        refine a_op rfl (o_mv rfl) ?_
        refine a_op rfl ((by first | exact o_fa tf82_3 rfl rfl | exact o_fap tf82_3 rfl rfl)) ?_
        refine a_op rfl ((by first | exact o_ld tg22 rfl rfl | exact o_ldp tg22 rfl rfl rfl rfl)) ?_
        refine a_op rfl (o_len rfl rfl (by first | exact List.length_map .. | rfl) tl22) ?_
        refine a_if rfl (o_lt rfl rfl) (fun h17 => ?_) (fun h18 => ?_)
        · refine a_nil ?_
          refine tq_n ?_
          refine w_true rfl ?_
          have hui : i < x.unread.length := by omega
          have hxu := hx.u _ (List.getElem_mem hui)
          unfold u8r at hxu
          refine awp_draw ⟨[[], [0], [], [0, 1, 2], [0, 1, 2, 3], [0, 1, 2, 3, 4], [0, 1, 2, 3, 4, 5], [], [7], [], [7, 8, 9], [7, 8, 9, 10], [7, 8, 9, 10, 11], [7, 8, 9, 10, 11, 12], [0, 1, 2, 3, 4, 5, 6], [0, 1, 2, 3, 4, 5, 6, 14], [0, 1, 2, 3, 4, 5, 6, 7, 8, 9, 10, 11, 12, 13, 14, 15], [0, 1, 2, 3, 4, 5, 6, 7, 8, 9, 10, 11, 12, 13, 14, 15, 16]], [[1], [105], [12], [106, 107], [108], [109], [110], [1], [112], [12], [113, 114], [115], [116], [117], [13], [111, 119], [13], [118, 120]], [[], [0], [], [], [], [], [], [], [0], [], [], [], [], [], [], [7], [], [7]], [none, none, none, none, none, none, none, none, none, none, none, none, none, none, none, some 7, none, some 7]⟩ mo r34_24_ok (by decide +kernel) (l := r34_24.toList) rfl ?_
          refine d_op rfl rfl rfl (fun _ => (by first | exact o_fa tf82_3 rfl rfl | exact o_fap tf82_3 rfl rfl)) ?_
          refine d_op rfl rfl rfl (fun _ => (by first | exact o_ld tg22 rfl rfl | exact o_ldp tg22 rfl rfl rfl rfl)) ?_
          refine d_op rfl rfl rfl (fun _ => o_mv rfl) ?_
          refine d_op rfl rfl rfl (fun _ => o_ix te22 tn5 rfl rfl rfl (ixm _ _ _ hui)) ?_
          refine d_op rfl rfl rfl (fun _ => (by first | exact o_ld tg5 rfl rfl | exact o_ldp tg5 rfl rfl rfl rfl)) ?_
          refine d_op rfl rfl rfl (fun _ => o_rem rfl rfl (by omega) (by omega)) ?_
          refine d_op rfl rfl rfl (fun _ => o_ne rfl rfl) ?_
          refine d_op rfl rfl rfl (fun _ => (by first | exact o_fa tf82_3 rfl rfl | exact o_fap tf82_3 rfl rfl)) ?_
          refine d_op rfl rfl rfl (fun _ => (by first | exact o_ld tg22 rfl rfl | exact o_ldp tg22 rfl rfl rfl rfl)) ?_
          refine d_op rfl rfl rfl (fun _ => o_mv rfl) ?_
          refine d_op rfl rfl rfl (fun _ => o_ix te22 tn5 rfl rfl rfl (ixm _ _ _ hui)) ?_
          refine d_op rfl rfl rfl (fun _ => (by first | exact o_ld tg5 rfl rfl | exact o_ldp tg5 rfl rfl rfl rfl)) ?_
          refine d_op rfl rfl rfl (fun _ => o_rem rfl rfl (by omega) (by omega)) ?_
          refine d_op rfl rfl rfl (fun _ => o_ne rfl rfl) ?_
          refine d_op rfl rfl rfl (fun _ => (by first | exact o_fa tf45_2 rfl rfl | exact o_fap tf45_2 rfl rfl)) ?_
          refine d_w0 rfl rfl rfl (fun _ => o_stD (N := 0) tn4 rfl rfl (by first | exact good_slo rfl | rfl) rfl rfl rfl) rfl rfl rfl ?_
          refine d_op rfl rfl rfl (fun _ => (by first | exact o_fa tf45_3 rfl rfl | exact o_fap tf45_3 rfl rfl)) ?_
          refine d_w0 rfl rfl rfl (fun _ => o_stD (N := 0) tn4 rfl rfl (by first | exact good_slo rfl | rfl) rfl rfl rfl) rfl rfl rfl ?_
          refine d_nil ?_
          refine tq_n ?_
          refine w_reg (l := r34_25.toList) rfl r34_25_ok ?_
          refine a_op rfl (o_mv rfl) ?_
          refine a_op rfl ((by first | exact o_ldg tg45 tn45 rfl rfl | exact o_ldpg tg45 tn45 rfl rfl rfl rfl)) ?_
          refine a_op rfl (o_bs tE43 (by decide) rfl rfl rfl) ?_
          refine a_op rfl (o_ap tE43 rfl rfl (by simp) rfl rfl rfl (by simp; omega) (by simp; omega) rfl rfl rfl rfl) ?_
          refine a_op rfl (o_as rfl) ?_
          refine a_nil ?_
          refine bq_n ?_
          refine tq_n ?_
          have hit : itemAt x i = ⟨1 + 7 * (i : Int), 0, decide (x.unread[i] % 8 ≠ 0), decide (x.unread[i] % 8 ≠ 1)⟩ := by
            simp only [itemAt, hng, getDi hi, getDi hui]
            rw [if_neg (by omega), if_pos hui, if_pos hui]
          refine w_heq (H1 := [.var [.sl 1 b.b0 (x.vols.map u8AV), .sl 1 b.b1 (x.caps.map u8AV), .sl 1 b.b2 (x.picks.map u8AV), .sl 1 b.b3 (x.unread.map u8AV), .raw (.int .u8 x.sweeps)], .var [.raw (.slice none 0 0), .raw (.slice none 0 0), .raw (.slice none 0 0), .raw (.slice none 0 0)], .vec 2 (stopsF x).length ((stopsF x).map stopAV), .vec 1 0 [], .vec 1 v ((capsF x).map intAV), .var (planC b4F (planF x).1), .vec 4 (i + 1) ((((List.range i).map (itemAt x)).map itemAV) ++ [itemAV ⟨1 + 7 * (i : Int), 0, decide (x.unread[i] % 8 ≠ 0), decide (x.unread[i] % 8 ≠ 1)⟩]), .var (itemAV ⟨1 + 7 * (i : Int), 0, decide (x.unread[i] % 8 ≠ 0), decide (x.unread[i] % 8 ≠ 1)⟩).cells]) rfl ?_
          refine w_view [(1, .ptr 0 0), (2, .ptr 1 0), (5, .slo 2 (stopsF x).length 0 (stopsF x).length), (9, .ptr 5 0), (11, .slo 6 (i + 1) 0 (i + 1)), (12, .raw (.int .i64 ((i : Nat) : Int)))] [.var [.sl 1 b.b0 (x.vols.map u8AV), .sl 1 b.b1 (x.caps.map u8AV), .sl 1 b.b2 (x.picks.map u8AV), .sl 1 b.b3 (x.unread.map u8AV), .raw (.int .u8 x.sweeps)], .var [.raw (.slice none 0 0), .raw (.slice none 0 0), .raw (.slice none 0 0), .raw (.slice none 0 0)], .vec 2 (stopsF x).length ((stopsF x).map stopAV), .vec 1 0 [], .vec 1 v ((capsF x).map intAV), .var (planC b4F (planF x).1), .vec 4 (i + 1) ((((List.range i).map (itemAt x)).map itemAV) ++ [itemAV ⟨1 + 7 * (i : Int), 0, decide (x.unread[i] % 8 ≠ 0), decide (x.unread[i] % 8 ≠ 1)⟩])] 7 rfl (Nat.le_of_ble_eq_true rfl) (Nat.le_of_ble_eq_true rfl) ⟨⟨_, rfl, (by first | exact .mpK (Nat.le_of_ble_eq_true rfl) | exact .sloK (Nat.le_of_ble_eq_true rfl) | exact .ptrK (Nat.le_of_ble_eq_true rfl) | exact rs_pur (by simp) rfl)⟩, ⟨_, rfl, (by first | exact .mpK (Nat.le_of_ble_eq_true rfl) | exact .sloK (Nat.le_of_ble_eq_true rfl) | exact .ptrK (Nat.le_of_ble_eq_true rfl) | exact rs_pur (by simp) rfl)⟩, ⟨_, rfl, (by first | exact .mpK (Nat.le_of_ble_eq_true rfl) | exact .sloK (Nat.le_of_ble_eq_true rfl) | exact .ptrK (Nat.le_of_ble_eq_true rfl) | exact rs_pur (by simp) rfl)⟩, ⟨_, rfl, (by first | exact .mpK (Nat.le_of_ble_eq_true rfl) | exact .sloK (Nat.le_of_ble_eq_true rfl) | exact .ptrK (Nat.le_of_ble_eq_true rfl) | exact rs_pur (by simp) rfl)⟩, ⟨_, rfl, (by first | exact .mpK (Nat.le_of_ble_eq_true rfl) | exact .sloK (Nat.le_of_ble_eq_true rfl) | exact .ptrK (Nat.le_of_ble_eq_true rfl) | exact rs_pur (by simp) rfl)⟩, ⟨_, rfl, (by first | exact .mpK (Nat.le_of_ble_eq_true rfl) | exact .sloK (Nat.le_of_ble_eq_true rfl) | exact .ptrK (Nat.le_of_ble_eq_true rfl) | exact rs_pur (by simp) rfl)⟩, trivial⟩ ⟨ors_var ⟨rs_pur (by simp) rfl, rs_pur (by simp) rfl, rs_pur (by simp) rfl, rs_pur (by simp) rfl, rs_pur (by simp) rfl, trivial⟩, ors_var ⟨rs_pur (by simp) rfl, rs_pur (by simp) rfl, rs_pur (by simp) rfl, rs_pur (by simp) rfl, trivial⟩, ors_vec (pu_stop _), ors_vec (by simp), ors_vec (pu_int _), ors_var ⟨rs_pur (by simp) rfl, rs_pur (by simp) rfl, rs_pur (by simp) rfl, rs_pur (by simp) rfl, trivial⟩, ors_vec (pu_item1 _ _), trivial⟩ ?_
          refine w_reg (l := r34_18.toList) rfl r34_18_ok ?_
          refine a_op rfl (o_mv rfl) ?_
          refine a_op rfl (o_add rfl rfl (by simp only [klo, khi]; omega)) ?_
          refine a_op rfl (o_as rfl) ?_
          refine a_nil ?_
          refine tq_n ?_
          exact ⟨i + 1, ⟨⟨by omega, by omega⟩, by omega⟩, ⟨(by first | exact sub_int rfl (by omega) | rfl), (by first | exact sub_int rfl (by omega) | rfl), (by first | exact sub_int rfl (by omega) | rfl), (by first | exact sub_int rfl (by omega) | rfl), (by first | exact sub_int rfl (by omega) | rfl), (by first | exact sub_int rfl (by omega) | rfl), trivial⟩, by rw [range_map_succ, List.map_append, hit]; rfl⟩
        refine a_nil ?_
        refine tq_n ?_
        refine w_false rfl ?_
        refine awp_skip ?_
        refine tq_n ?_
        refine w_reg (l := r34_25.toList) rfl r34_25_ok ?_
        refine a_op rfl (o_mv rfl) ?_
        refine a_op rfl ((by first | exact o_ldg tg45 tn45 rfl rfl | exact o_ldpg tg45 tn45 rfl rfl rfl rfl)) ?_
        refine a_op rfl (o_bs tE43 (by decide) rfl rfl rfl) ?_
        refine a_op rfl (o_ap tE43 rfl rfl (by simp) rfl rfl rfl (by simp; omega) (by simp; omega) rfl rfl rfl rfl) ?_
        refine a_op rfl (o_as rfl) ?_
        refine a_nil ?_
        refine bq_n ?_
        refine tq_n ?_
        have hit : itemAt x i = ⟨1 + 7 * (i : Int), 0, true, true⟩ := by
          simp only [itemAt, hng, getDi hi]
          rw [if_neg (by omega), if_neg (by omega), if_neg (by omega)]
        refine w_heq (H1 := [.var [.sl 1 b.b0 (x.vols.map u8AV), .sl 1 b.b1 (x.caps.map u8AV), .sl 1 b.b2 (x.picks.map u8AV), .sl 1 b.b3 (x.unread.map u8AV), .raw (.int .u8 x.sweeps)], .var [.raw (.slice none 0 0), .raw (.slice none 0 0), .raw (.slice none 0 0), .raw (.slice none 0 0)], .vec 2 (stopsF x).length ((stopsF x).map stopAV), .vec 1 0 [], .vec 1 v ((capsF x).map intAV), .var (planC b4F (planF x).1), .vec 4 (i + 1) ((((List.range i).map (itemAt x)).map itemAV) ++ [itemAV ⟨1 + 7 * (i : Int), 0, true, true⟩]), .var (itemAV ⟨1 + 7 * (i : Int), 0, true, true⟩).cells]) rfl ?_
        refine w_view [(1, .ptr 0 0), (2, .ptr 1 0), (5, .slo 2 (stopsF x).length 0 (stopsF x).length), (9, .ptr 5 0), (11, .slo 6 (i + 1) 0 (i + 1)), (12, .raw (.int .i64 ((i : Nat) : Int)))] [.var [.sl 1 b.b0 (x.vols.map u8AV), .sl 1 b.b1 (x.caps.map u8AV), .sl 1 b.b2 (x.picks.map u8AV), .sl 1 b.b3 (x.unread.map u8AV), .raw (.int .u8 x.sweeps)], .var [.raw (.slice none 0 0), .raw (.slice none 0 0), .raw (.slice none 0 0), .raw (.slice none 0 0)], .vec 2 (stopsF x).length ((stopsF x).map stopAV), .vec 1 0 [], .vec 1 v ((capsF x).map intAV), .var (planC b4F (planF x).1), .vec 4 (i + 1) ((((List.range i).map (itemAt x)).map itemAV) ++ [itemAV ⟨1 + 7 * (i : Int), 0, true, true⟩])] 7 rfl (Nat.le_of_ble_eq_true rfl) (Nat.le_of_ble_eq_true rfl) ⟨⟨_, rfl, (by first | exact .mpK (Nat.le_of_ble_eq_true rfl) | exact .sloK (Nat.le_of_ble_eq_true rfl) | exact .ptrK (Nat.le_of_ble_eq_true rfl) | exact rs_pur (by simp) rfl)⟩, ⟨_, rfl, (by first | exact .mpK (Nat.le_of_ble_eq_true rfl) | exact .sloK (Nat.le_of_ble_eq_true rfl) | exact .ptrK (Nat.le_of_ble_eq_true rfl) | exact rs_pur (by simp) rfl)⟩, ⟨_, rfl, (by first | exact .mpK (Nat.le_of_ble_eq_true rfl) | exact .sloK (Nat.le_of_ble_eq_true rfl) | exact .ptrK (Nat.le_of_ble_eq_true rfl) | exact rs_pur (by simp) rfl)⟩, ⟨_, rfl, (by first | exact .mpK (Nat.le_of_ble_eq_true rfl) | exact .sloK (Nat.le_of_ble_eq_true rfl) | exact .ptrK (Nat.le_of_ble_eq_true rfl) | exact rs_pur (by simp) rfl)⟩, ⟨_, rfl, (by first | exact .mpK (Nat.le_of_ble_eq_true rfl) | exact .sloK (Nat.le_of_ble_eq_true rfl) | exact .ptrK (Nat.le_of_ble_eq_true rfl) | exact rs_pur (by simp) rfl)⟩, ⟨_, rfl, (by first | exact .mpK (Nat.le_of_ble_eq_true rfl) | exact .sloK (Nat.le_of_ble_eq_true rfl) | exact .ptrK (Nat.le_of_ble_eq_true rfl) | exact rs_pur (by simp) rfl)⟩, trivial⟩ ⟨ors_var ⟨rs_pur (by simp) rfl, rs_pur (by simp) rfl, rs_pur (by simp) rfl, rs_pur (by simp) rfl, rs_pur (by simp) rfl, trivial⟩, ors_var ⟨rs_pur (by simp) rfl, rs_pur (by simp) rfl, rs_pur (by simp) rfl, rs_pur (by simp) rfl, trivial⟩, ors_vec (pu_stop _), ors_vec (by simp), ors_vec (pu_int _), ors_var ⟨rs_pur (by simp) rfl, rs_pur (by simp) rfl, rs_pur (by simp) rfl, rs_pur (by simp) rfl, trivial⟩, ors_vec (pu_item1 _ _), trivial⟩ ?_
        refine w_reg (l := r34_18.toList) rfl r34_18_ok ?_
        refine a_op rfl (o_mv rfl) ?_
        refine a_op rfl (o_add rfl rfl (by simp only [klo, khi]; omega)) ?_
        refine a_op rfl (o_as rfl) ?_
        refine a_nil ?_
        refine tq_n ?_
        exact ⟨i + 1, ⟨⟨by omega, by omega⟩, by omega⟩, ⟨(by first | exact sub_int rfl (by omega) | rfl), (by first | exact sub_int rfl (by omega) | rfl), (by first | exact sub_int rfl (by omega) | rfl), (by first | exact sub_int rfl (by omega) | rfl), (by first | exact sub_int rfl (by omega) | rfl), (by first | exact sub_int rfl (by omega) | rfl), trivial⟩, by rw [range_map_succ, List.map_append, hit]; rfl⟩
      refine a_op rfl (o_pkt rfl rfl) ?_
      refine a_nil ?_
      refine tq_n ?_
      refine w_false rfl ?_
      refine awp_exit ?_
      refine tq_x ?_
      refine tq_x ?_
      refine bq_hit ?_
      refine tq_n ?_
      refine awp_seq ?_
      refine w_reg (l := r34_26.toList) rfl r34_26_ok ?_
      refine a_op rfl ((by first | exact o_ldg tg51 tn51 rfl rfl | exact o_ldpg tg51 tn51 rfl rfl rfl rfl)) ?_
      refine a_op rfl (o_mv rfl) ?_
      refine a_op0 rfl (o_st (N := 3) tn51 rfl rfl (by first | exact good_slo rfl | rfl) rfl rfl) ?_
      refine a_op rfl (o_as rfl) ?_
      refine a_op rfl (o_as rfl) ?_
      refine a_nil ?_
      refine tq_n ?_
      refine awp_ret ?_
      refine r_tup (xs := [_]) rfl ⟨c_ag tg51 tn51 rfl rfl, rfl, rfl, trivial⟩ ?_
      have hr : builtF x = (((planF x).1, itemsF x), true) := by rw [builtF, if_pos (by omega)]
      rw [hr]
      exact rs_tup ⟨rs_pur (by simp) rfl, rs_slo id rfl (by simp) (pu_item _) (by rw [itemsF, show i = min x.picks.length 200 by omega]), .raw _, trivial⟩
    refine a_op rfl (o_mv rfl) ?_
    refine a_off rfl ?_
    refine a_off rfl ?_
    refine a_op rfl (o_pkf rfl rfl) ?_
    refine a_nil ?_
    refine tq_n ?_
    refine w_false rfl ?_
    refine awp_exit ?_
    refine tq_x ?_
    refine tq_x ?_
    refine bq_hit ?_
    refine tq_n ?_
    refine awp_seq ?_
    refine w_reg (l := r34_26.toList) rfl r34_26_ok ?_
    refine a_op rfl ((by first | exact o_ldg tg51 tn51 rfl rfl | exact o_ldpg tg51 tn51 rfl rfl rfl rfl)) ?_
    refine a_op rfl (o_mv rfl) ?_
    refine a_op0 rfl (o_st (N := 3) tn51 rfl rfl (by first | exact good_slo rfl | rfl) rfl rfl) ?_
    refine a_op rfl (o_as rfl) ?_
    refine a_op rfl (o_as rfl) ?_
    refine a_nil ?_
    refine tq_n ?_
    refine awp_ret ?_
    refine r_tup (xs := [_]) rfl ⟨c_ag tg51 tn51 rfl rfl, rfl, rfl, trivial⟩ ?_
    have hr : builtF x = (((planF x).1, itemsF x), true) := by rw [builtF, if_pos (by omega)]
    rw [hr]
    exact rs_tup ⟨rs_pur (by simp) rfl, rs_slo id rfl (by simp) (pu_item _) (by rw [itemsF, show i = min x.picks.length 200 by omega]), .raw _, trivial⟩
  refine a_op rfl (o_mv rfl) ?_
  refine a_off rfl ?_
  refine a_off rfl ?_
  refine a_op rfl (o_pkf rfl rfl) ?_
  refine a_nil ?_
  refine tq_n ?_
  refine w_false rfl ?_
  refine awp_exit ?_
  refine tq_x ?_
  refine tq_x ?_
  refine bq_hit ?_
  refine tq_n ?_
  refine awp_seq ?_
  have hls : (List.range i).map (stopAt x) = stopsF x := by rw [stopsF, show i = min x.vols.length 40 by omega]
  have hil : i = (stopsF x).length := by rw [← hls]; simp
  refine w_heq (H1 := [.var [.sl 1 b.b0 (x.vols.map u8AV), .sl 1 b.b1 (x.caps.map u8AV), .sl 1 b.b2 (x.picks.map u8AV), .sl 1 b.b3 (x.unread.map u8AV), .raw (.int .u8 x.sweeps)], .var [.raw (.slice none 0 0), .raw (.slice none 0 0), .raw (.slice none 0 0), .raw (.slice none 0 0)], .vec 2 (stopsF x).length ((stopsF x).map stopAV)]) (by rw [hls, hil]) ?_
  refine w_keep [(1, .ptr 0 0), (2, .ptr 1 0), (5, .slo 2 (stopsF x).length 0 (stopsF x).length)] ⟨rfl, rfl, sub_eq rfl (by rw [hil]), trivial⟩ ?_
  refine w_reg (l := r34_6.toList) rfl r34_6_ok ?_
  refine a_op rfl ((by first | exact o_fa tf82_1 rfl rfl | exact o_fap tf82_1 rfl rfl)) ?_
  refine a_op rfl ((by first | exact o_ld tg22 rfl rfl | exact o_ldp tg22 rfl rfl rfl rfl)) ?_
  refine a_callO rfl rfl rfl cb27 (by simp) (machO_ok _ x.caps (by omega) hx.c) ?_
  rintro r0 G0 ⟨v, rfl, rfl⟩
  refine ⟨.slo 4 v 0 (machF x.caps).length, [.vec 1 0 [], .vec 1 v ((machF x.caps).map intAV)], .slo, shh ⟨sho_vec (by simp), sho_vec (pu_int _), trivial⟩, ?_⟩
  refine a_op rfl (o_as rfl) ?_
  refine a_nil ?_
  refine tq_n ?_
  refine awp_seq ?_
  refine awp_seq ?_
  obtain ⟨hm0, hm1, hm2⟩ := machF_in hx.c
  refine w_reg (l := r34_7.toList) rfl r34_7_ok ?_
  refine a_op rfl (o_mv rfl) ?_
  refine a_op rfl (o_len (q := (machF x.caps).length) (j := (machF x.caps).length) rfl (by simp [lenAV]) rfl tl34) ?_
  refine a_op rfl (o_mv rfl) ?_
  refine a_nil ?_
  refine tq_n ?_
  refine awp_block ?_
  refine w_loop (fun i : Nat => i ≤ (machF x.caps).length) (fun i => [(1, .ptr 0 0), (2, .ptr 1 0), (5, .slo 2 (stopsF x).length 0 (stopsF x).length), (7, .slo 4 v 0 (machF x.caps).length), (44, .slo 4 v 0 (machF x.caps).length), (45, .raw (.int .i64 (((machF x.caps).length : Nat) : Int))), (46, .raw (.int .i64 ((i : Nat) : Int)))]) (fun i => [.var [.sl 1 b.b0 (x.vols.map u8AV), .sl 1 b.b1 (x.caps.map u8AV), .sl 1 b.b2 (x.picks.map u8AV), .sl 1 b.b3 (x.unread.map u8AV), .raw (.int .u8 x.sweeps)], .var [.raw (.slice none 0 0), .raw (.slice none 0 0), .raw (.slice none 0 0), .raw (.slice none 0 0)], .vec 2 (stopsF x).length ((stopsF x).map stopAV), .vec 1 0 [], .vec 1 v ((add4 (machF x.caps) i).map intAV)]) (fun i => (machF x.caps).length - i) (0) (by simp) ⟨(by first | exact sub_int rfl (by omega) | rfl), (by first | exact sub_int rfl (by omega) | rfl), (by first | exact sub_int rfl (by omega) | rfl), (by first | exact sub_int rfl (by omega) | rfl), (by first | exact sub_int rfl (by omega) | rfl), (by first | exact sub_int rfl (by omega) | rfl), (by first | exact sub_int rfl (by omega) | rfl), trivial⟩ (by rw [add4_zero]; rfl) ?_
  intro i hp
  unfold b34_1
  refine awp_seq ?_
  refine w_reg (l := r34_8.toList) rfl r34_8_ok ?_
  refine a_if rfl (o_lt rfl rfl) (fun h19 => ?_) (fun h20 => ?_)
  · refine a_nil ?_
    refine tq_n ?_
    refine awp_seq ?_
    refine w_true rfl ?_
    refine awp_skip ?_
    refine tq_n ?_
    refine awp_seq ?_
    refine awp_block ?_
    refine awp_seq ?_
    have hi : i < (machF x.caps).length := by omega
    have hil2 : i < (add4 (machF x.caps) i).length := by rw [add4_len]; exact hi
    have hg4 := add4_get hi
    have hb4 := hm2 _ (List.getElem_mem hi)
    have hat : ((add4 (machF x.caps) i).map intAV)[0 + i]? = some (intAV (machF x.caps)[i]) := by rw [Nat.zero_add, mAt hil2, hg4]
    refine w_reg (l := r34_9.toList) rfl r34_9_ok ?_
    refine a_op rfl (o_mv rfl) ?_
    refine a_op rfl (o_as rfl) ?_
    refine a_nil ?_
    refine tq_n ?_
    refine w_reg (l := r34_10.toList) rfl r34_10_ok ?_
    refine a_op rfl (o_mv rfl) ?_
    refine a_op rfl (o_mv rfl) ?_
    refine a_op rfl (o_ixo (j := i) te34 tn3 rfl rfl rfl rfl hi) ?_
    refine a_op rfl (o_ldp (el := intAV (machF x.caps)[i]) tg3 rfl rfl hat rfl) ?_
    refine a_op rfl (o_add rfl rfl (by simp only [klo, khi]; omega)) ?_
    refine a_op rfl (o_ixo (j := i) te34 tn3 rfl rfl rfl rfl hi) ?_
    refine a_opH0 rfl (o_stp (N := 0) (el := intAV (machF x.caps)[i]) tn3 rfl rfl rfl rfl rfl hat rfl (Nat.le_refl _)) (H' := [.var [.sl 1 b.b0 (x.vols.map u8AV), .sl 1 b.b1 (x.caps.map u8AV), .sl 1 b.b2 (x.picks.map u8AV), .sl 1 b.b3 (x.unread.map u8AV), .raw (.int .u8 x.sweeps)], .var [.raw (.slice none 0 0), .raw (.slice none 0 0), .raw (.slice none 0 0), .raw (.slice none 0 0)], .vec 2 (stopsF x).length ((stopsF x).map stopAV), .vec 1 0 [], .vec 1 v ((add4 (machF x.caps) (i + 1)).map intAV)]) (by rw [Nat.zero_add, ← add4_set hi, List.map_set]; rfl) ?_
    refine a_nil ?_
    refine bq_n ?_
    refine tq_n ?_
    refine w_reg (l := r34_11.toList) rfl r34_11_ok ?_
    refine a_op rfl (o_add rfl rfl (by simp only [klo, khi]; omega)) ?_
    refine a_op rfl (o_mv rfl) ?_
    refine a_nil ?_
    refine tq_n ?_
    exact ⟨i + 1, ⟨by omega, by omega⟩, ⟨(by first | exact sub_int rfl (by omega) | rfl), (by first | exact sub_int rfl (by omega) | rfl), (by first | exact sub_int rfl (by omega) | rfl), (by first | exact sub_int rfl (by omega) | rfl), (by first | exact sub_int rfl (by omega) | rfl), (by first | exact sub_int rfl (by omega) | rfl), (by first | exact sub_int rfl (by omega) | rfl), trivial⟩, rfl⟩
  refine a_nil ?_
  refine tq_n ?_
  refine awp_seq ?_
  refine w_false rfl ?_
  refine awp_exit ?_
  refine tq_x ?_
  refine tq_x ?_
  refine bq_hit ?_
  refine tq_n ?_
  refine awp_seq ?_
  refine w_heq (H1 := [.var [.sl 1 b.b0 (x.vols.map u8AV), .sl 1 b.b1 (x.caps.map u8AV), .sl 1 b.b2 (x.picks.map u8AV), .sl 1 b.b3 (x.unread.map u8AV), .raw (.int .u8 x.sweeps)], .var [.raw (.slice none 0 0), .raw (.slice none 0 0), .raw (.slice none 0 0), .raw (.slice none 0 0)], .vec 2 (stopsF x).length ((stopsF x).map stopAV), .vec 1 0 [], .vec 1 v ((capsF x).map intAV)]) (by rw [show i = (machF x.caps).length by omega, add4_all]; rfl) ?_
  refine w_reg (l := r34_12.toList) rfl r34_12_ok ?_
  refine a_op rfl (o_mv rfl) ?_
  refine a_op rfl (o_mv rfl) ?_
  refine a_lendF (vs' := [.sl 2 fL ((stopsF x).map stopAV), .sl 1 fL ((capsF x).map intAV)]) rfl rfl rfl cb24 (make_ok _ _ (by have := stopsF_len x; omega) _ _ (by simp [capsF]; omega)) ⟨ln_slo (i := 2) rfl (by simp) (pu_stop _) rfl, ln_slo (i := 4) rfl (by simp [capsF]) (pu_int _) rfl, trivial⟩ (by simp [planAV, planC, intAV, seatAV, b4F]) ?_
  rw [show makeF (stopsF x) (capsF x) = planF x from rfl]
  refine a_op rfl (o_mv rfl) ?_
  refine a_op rfl (o_ex rfl rfl) ?_
  refine a_op rfl (o_ex rfl rfl) ?_
  refine a_op rfl (o_al (N := 5) tz51 rfl rfl rfl) ?_
  refine a_op0 rfl (o_st (N := 3) tn51 rfl rfl (by first | exact good_slo rfl | rfl) rfl rfl) ?_
  refine a_op rfl (o_as rfl) ?_
  refine a_nil ?_
  refine tq_n ?_
  refine awp_seq ?_
  refine awp_seq ?_
  refine w_reg (l := r34_13.toList) rfl r34_13_ok ?_
  refine a_op rfl (o_mv rfl) ?_
  refine a_if rfl (o_ne rfl rfl) (fun h21 => ?_) (fun h22 => ?_)
  · refine a_nil ?_
    refine tq_n ?_
    refine w_true rfl ?_
    refine awp_seq ?_
    refine w_reg (l := r34_14.toList) rfl r34_14_ok ?_
    refine a_op rfl ((by first | exact o_ldg tg51 tn51 rfl rfl | exact o_ldpg tg51 tn51 rfl rfl rfl rfl)) ?_
    refine a_op0 rfl (o_st (N := 3) tn51 rfl rfl (by first | exact good_slo rfl | rfl) rfl rfl) ?_
    refine a_op rfl (o_as rfl) ?_
    refine a_op rfl (o_as rfl) ?_
    refine a_nil ?_
    refine tq_n ?_
    refine awp_ret ?_
    refine tq_r ?_
    refine r_tup (xs := [_]) rfl ⟨c_ag tg51 tn51 rfl rfl, rfl, rfl, trivial⟩ ?_
    have hr : builtF x = (((planF x).1, []), false) := by rw [builtF, if_neg (by assumption)]
    rw [hr]
    exact rs_tup ⟨rs_pur (by simp) rfl, .nil (by decide), .raw _, trivial⟩
  refine a_nil ?_
  refine tq_n ?_
  refine w_false rfl ?_
  refine awp_skip ?_
  refine tq_n ?_
  refine awp_seq ?_
  refine w_reg (l := r34_15.toList) rfl r34_15_ok ?_
  refine a_op rfl (o_as rfl) ?_
  refine a_nil ?_
  refine tq_n ?_
  refine awp_seq ?_
  refine awp_seq ?_
  refine w_own (q := 11) (z := 4) (N := 6) (by decide) rfl rfl rfl ?_
  refine w_reg (l := r34_16.toList) rfl r34_16_ok ?_
  refine a_op rfl (o_as rfl) ?_
  refine a_nil ?_
  refine tq_n ?_
  refine awp_block ?_
  refine w_loop (fun i : Nat => i ≤ x.picks.length ∧ i ≤ 200) (fun i => [(1, .ptr 0 0), (2, .ptr 1 0), (5, .slo 2 (stopsF x).length 0 (stopsF x).length), (9, .ptr 5 0), (11, .slo 6 i 0 i), (12, .raw (.int .i64 ((i : Nat) : Int)))]) (fun i => [.var [.sl 1 b.b0 (x.vols.map u8AV), .sl 1 b.b1 (x.caps.map u8AV), .sl 1 b.b2 (x.picks.map u8AV), .sl 1 b.b3 (x.unread.map u8AV), .raw (.int .u8 x.sweeps)], .var [.raw (.slice none 0 0), .raw (.slice none 0 0), .raw (.slice none 0 0), .raw (.slice none 0 0)], .vec 2 (stopsF x).length ((stopsF x).map stopAV), .vec 1 0 [], .vec 1 v ((capsF x).map intAV), .var (planC b4F (planF x).1), .vec 4 i (((List.range i).map (itemAt x)).map itemAV)]) (fun i => 200 - i) (0) ⟨by simp, by omega⟩ ⟨(by first | exact sub_int rfl (by omega) | rfl), (by first | exact sub_int rfl (by omega) | rfl), (by first | exact sub_int rfl (by omega) | rfl), (by first | exact sub_int rfl (by omega) | rfl), (by first | exact sub_int rfl (by omega) | rfl), (by first | exact sub_int rfl (by omega) | rfl), trivial⟩ rfl ?_
  intro i ⟨hp1, hp2⟩
  unfold b34_2
  refine awp_seq ?_
  refine awp_seq ?_
  refine w_reg (l := r34_17.toList) rfl r34_17_ok ?_
  refine a_op rfl (o_mv rfl) ?_
  refine a_op rfl ((by first | exact o_fa tf82_2 rfl rfl | exact o_fap tf82_2 rfl rfl)) ?_
  refine a_op rfl ((by first | exact o_ld tg22 rfl rfl | exact o_ldp tg22 rfl rfl rfl rfl)) ?_
  refine a_op rfl (o_len rfl rfl (by first | exact List.length_map .. | rfl) tl22) ?_
  refine a_if rfl (o_lt rfl rfl) (fun h23 => ?_) (fun h24 => ?_)
  · have hi : i < x.picks.length := by omega
    refine a_op rfl (o_mv rfl) ?_
    refine a_op rfl (o_mv rfl) ?_
    refine a_if rfl (o_lt rfl rfl) (fun h25 => ?_) (fun h26 => ?_)
    · refine a_op rfl (o_pkt rfl rfl) ?_
      refine a_nil ?_
      refine tq_n ?_
      refine w_true rfl ?_
      refine awp_skip ?_
      refine tq_n ?_
      refine awp_seq ?_
      refine awp_block ?_
      refine awp_seq ?_
      have hxi := hx.p _ (List.getElem_mem hi)
      unfold u8r at hxi
      have hsl := stopsF_len x
      obtain ⟨n, hn⟩ : ∃ n : Nat, x.picks[i] % ((((stopsF x).length : Nat) : Int) + 1) = n := ⟨(x.picks[i] % ((((stopsF x).length : Nat) : Int) + 1)).toNat, by have := Int.emod_nonneg x.picks[i] (show ((((stopsF x).length : Nat) : Int) + 1) ≠ 0 by omega); omega⟩
      have hng : (x.picks[i] % ((((stopsF x).length : Nat) : Int) + 1)).toNat = n := by omega
      refine w_reg (l := r34_19.toList) rfl r34_19_ok ?_
      refine a_op rfl (o_mv rfl) ?_
      refine a_op rfl (o_mul rfl rfl (by simp only [klo, khi]; omega)) ?_
      refine a_op rfl (o_add rfl rfl (by simp only [klo, khi]; omega)) ?_
      refine a_op rfl (o_bd tz45 rfl tp45 rfl rfl) ?_
      refine a_op rfl (o_al (N := 7) tz45 rfl rfl rfl) ?_
      refine a_op0 rfl (o_st (N := 3) tn45 rfl rfl (by first | exact good_slo rfl | rfl) rfl rfl) ?_
      refine a_nil ?_
      refine tq_n ?_
      refine awp_seq ?_
      refine awp_seq ?_
      refine w_reg (l := r34_20.toList) rfl r34_20_ok ?_
      refine a_op rfl ((by first | exact o_fa tf82_2 rfl rfl | exact o_fap tf82_2 rfl rfl)) ?_
      refine a_op rfl ((by first | exact o_ld tg22 rfl rfl | exact o_ldp tg22 rfl rfl rfl rfl)) ?_
      refine a_op rfl (o_mv rfl) ?_
      refine a_op rfl (o_ix te22 tn5 rfl rfl rfl (ixm _ _ _ hi)) ?_
      refine a_op rfl ((by first | exact o_ld tg5 rfl rfl | exact o_ldp tg5 rfl rfl rfl rfl)) ?_
      refine a_op rfl (o_cv tk5 tk3 rfl (by simp only [klo, khi]; omega)) ?_
      refine a_op rfl (o_mv rfl) ?_
      refine a_op rfl (o_len (q := (stopsF x).length) (j := (stopsF x).length) rfl (by simp [lenAV]) rfl tl46) ?_
      refine a_op rfl (o_add rfl rfl (by simp only [klo, khi]; omega)) ?_
      refine a_op rfl (o_rem rfl rfl (by omega) (by omega)) ?_
      refine a_op rfl (o_as rfl) ?_
      refine a_nil ?_
      refine tq_n ?_
      refine awp_seq ?_
      refine w_reg (l := r34_21.toList) rfl r34_21_ok ?_
      refine a_op rfl (o_mv rfl) ?_
      refine a_op rfl (o_mv rfl) ?_
      refine a_op rfl (o_len (q := (stopsF x).length) (j := (stopsF x).length) rfl (by simp [lenAV]) rfl tl46) ?_
      refine a_if rfl (o_lt rfl rfl) (fun h27 => ?_) (fun h28 => ?_)
      · refine a_nil ?_
        refine tq_n ?_
        refine w_true rfl ?_
        have hns : n < (stopsF x).length := by omega
        refine w_reg (l := r34_22.toList) rfl r34_22_ok ?_
        refine a_op rfl (o_mv rfl) ?_
        refine a_op rfl (o_mv rfl) ?_
        refine a_op rfl (o_ixo (j := n) te46 tn48 rfl rfl rfl hn hns) ?_
        refine a_op rfl (o_fap tf48_0 rfl rfl) ?_
        refine a_op rfl (o_ldp (el := stopAV (stopsF x)[n]) tg3 rfl rfl (by rw [Nat.zero_add]; exact mAt hns) rfl) ?_
        refine a_op rfl ((by first | exact o_fa tf45_1 rfl rfl | exact o_fap tf45_1 rfl rfl)) ?_
        refine a_op0 rfl (o_st (N := 0) tn3 rfl rfl (by first | exact good_slo rfl | rfl) rfl rfl) ?_
        refine a_nil ?_
        refine tq_n ?_
        refine awp_seq ?_
        refine awp_seq ?_
        refine w_reg (l := r34_23.toList) rfl r34_23_ok ?_
        refine a_op rfl (o_mv rfl) ?_
        refine a_op rfl ((by first | exact o_fa tf82_3 rfl rfl | exact o_fap tf82_3 rfl rfl)) ?_
        refine a_op rfl ((by first | exact o_ld tg22 rfl rfl | exact o_ldp tg22 rfl rfl rfl rfl)) ?_
        refine a_op rfl (o_len rfl rfl (by first | exact List.length_map .. | rfl) tl22) ?_
        refine a_if rfl (o_lt rfl rfl) (fun h29 => ?_) (fun h30 => ?_)
        · refine a_nil ?_
          refine tq_n ?_
          refine w_true rfl ?_
          have hui : i < x.unread.length := by omega
          have hxu := hx.u _ (List.getElem_mem hui)
          unfold u8r at hxu
          refine awp_draw ⟨[[], [0], [], [0, 1, 2], [0, 1, 2, 3], [0, 1, 2, 3, 4], [0, 1, 2, 3, 4, 5], [], [7], [], [7, 8, 9], [7, 8, 9, 10], [7, 8, 9, 10, 11], [7, 8, 9, 10, 11, 12], [0, 1, 2, 3, 4, 5, 6], [0, 1, 2, 3, 4, 5, 6, 14], [0, 1, 2, 3, 4, 5, 6, 7, 8, 9, 10, 11, 12, 13, 14, 15], [0, 1, 2, 3, 4, 5, 6, 7, 8, 9, 10, 11, 12, 13, 14, 15, 16]], [[1], [105], [12], [106, 107], [108], [109], [110], [1], [112], [12], [113, 114], [115], [116], [117], [13], [111, 119], [13], [118, 120]], [[], [0], [], [], [], [], [], [], [0], [], [], [], [], [], [], [7], [], [7]], [none, none, none, none, none, none, none, none, none, none, none, none, none, none, none, some 7, none, some 7]⟩ mo r34_24_ok (by decide +kernel) (l := r34_24.toList) rfl ?_
          refine d_op rfl rfl rfl (fun _ => (by first | exact o_fa tf82_3 rfl rfl | exact o_fap tf82_3 rfl rfl)) ?_
          refine d_op rfl rfl rfl (fun _ => (by first | exact o_ld tg22 rfl rfl | exact o_ldp tg22 rfl rfl rfl rfl)) ?_
          refine d_op rfl rfl rfl (fun _ => o_mv rfl) ?_
          refine d_op rfl rfl rfl (fun _ => o_ix te22 tn5 rfl rfl rfl (ixm _ _ _ hui)) ?_
          refine d_op rfl rfl rfl (fun _ => (by first | exact o_ld tg5 rfl rfl | exact o_ldp tg5 rfl rfl rfl rfl)) ?_
          refine d_op rfl rfl rfl (fun _ => o_rem rfl rfl (by omega) (by omega)) ?_
          refine d_op rfl rfl rfl (fun _ => o_ne rfl rfl) ?_
          refine d_op rfl rfl rfl (fun _ => (by first | exact o_fa tf82_3 rfl rfl | exact o_fap tf82_3 rfl rfl)) ?_
          refine d_op rfl rfl rfl (fun _ => (by first | exact o_ld tg22 rfl rfl | exact o_ldp tg22 rfl rfl rfl rfl)) ?_
          refine d_op rfl rfl rfl (fun _ => o_mv rfl) ?_
          refine d_op rfl rfl rfl (fun _ => o_ix te22 tn5 rfl rfl rfl (ixm _ _ _ hui)) ?_
          refine d_op rfl rfl rfl (fun _ => (by first | exact o_ld tg5 rfl rfl | exact o_ldp tg5 rfl rfl rfl rfl)) ?_
          refine d_op rfl rfl rfl (fun _ => o_rem rfl rfl (by omega) (by omega)) ?_
          refine d_op rfl rfl rfl (fun _ => o_ne rfl rfl) ?_
          refine d_op rfl rfl rfl (fun _ => (by first | exact o_fa tf45_2 rfl rfl | exact o_fap tf45_2 rfl rfl)) ?_
          refine d_w0 rfl rfl rfl (fun _ => o_stD (N := 0) tn4 rfl rfl (by first | exact good_slo rfl | rfl) rfl rfl rfl) rfl rfl rfl ?_
          refine d_op rfl rfl rfl (fun _ => (by first | exact o_fa tf45_3 rfl rfl | exact o_fap tf45_3 rfl rfl)) ?_
          refine d_w0 rfl rfl rfl (fun _ => o_stD (N := 0) tn4 rfl rfl (by first | exact good_slo rfl | rfl) rfl rfl rfl) rfl rfl rfl ?_
          refine d_nil ?_
          refine tq_n ?_
          refine w_reg (l := r34_25.toList) rfl r34_25_ok ?_
          refine a_op rfl (o_mv rfl) ?_
          refine a_op rfl ((by first | exact o_ldg tg45 tn45 rfl rfl | exact o_ldpg tg45 tn45 rfl rfl rfl rfl)) ?_
          refine a_op rfl (o_bs tE43 (by decide) rfl rfl rfl) ?_
          refine a_op rfl (o_ap tE43 rfl rfl (by simp) rfl rfl rfl (by simp; omega) (by simp; omega) rfl rfl rfl rfl) ?_
          refine a_op rfl (o_as rfl) ?_
          refine a_nil ?_
          refine bq_n ?_
          refine tq_n ?_
          have hit : itemAt x i = ⟨1 + 7 * (i : Int), (stopsF x)[n].id, decide (x.unread[i] % 8 ≠ 0), decide (x.unread[i] % 8 ≠ 1)⟩ := by
            simp only [itemAt, hng, getDi hi, getDi hui]
            rw [if_pos hns, getDg hns, if_pos hui, if_pos hui]
          refine w_heq (H1 := [.var [.sl 1 b.b0 (x.vols.map u8AV), .sl 1 b.b1 (x.caps.map u8AV), .sl 1 b.b2 (x.picks.map u8AV), .sl 1 b.b3 (x.unread.map u8AV), .raw (.int .u8 x.sweeps)], .var [.raw (.slice none 0 0), .raw (.slice none 0 0), .raw (.slice none 0 0), .raw (.slice none 0 0)], .vec 2 (stopsF x).length ((stopsF x).map stopAV), .vec 1 0 [], .vec 1 v ((capsF x).map intAV), .var (planC b4F (planF x).1), .vec 4 (i + 1) ((((List.range i).map (itemAt x)).map itemAV) ++ [itemAV ⟨1 + 7 * (i : Int), (stopsF x)[n].id, decide (x.unread[i] % 8 ≠ 0), decide (x.unread[i] % 8 ≠ 1)⟩]), .var (itemAV ⟨1 + 7 * (i : Int), (stopsF x)[n].id, decide (x.unread[i] % 8 ≠ 0), decide (x.unread[i] % 8 ≠ 1)⟩).cells]) rfl ?_
          refine w_view [(1, .ptr 0 0), (2, .ptr 1 0), (5, .slo 2 (stopsF x).length 0 (stopsF x).length), (9, .ptr 5 0), (11, .slo 6 (i + 1) 0 (i + 1)), (12, .raw (.int .i64 ((i : Nat) : Int)))] [.var [.sl 1 b.b0 (x.vols.map u8AV), .sl 1 b.b1 (x.caps.map u8AV), .sl 1 b.b2 (x.picks.map u8AV), .sl 1 b.b3 (x.unread.map u8AV), .raw (.int .u8 x.sweeps)], .var [.raw (.slice none 0 0), .raw (.slice none 0 0), .raw (.slice none 0 0), .raw (.slice none 0 0)], .vec 2 (stopsF x).length ((stopsF x).map stopAV), .vec 1 0 [], .vec 1 v ((capsF x).map intAV), .var (planC b4F (planF x).1), .vec 4 (i + 1) ((((List.range i).map (itemAt x)).map itemAV) ++ [itemAV ⟨1 + 7 * (i : Int), (stopsF x)[n].id, decide (x.unread[i] % 8 ≠ 0), decide (x.unread[i] % 8 ≠ 1)⟩])] 7 rfl (Nat.le_of_ble_eq_true rfl) (Nat.le_of_ble_eq_true rfl) ⟨⟨_, rfl, (by first | exact .mpK (Nat.le_of_ble_eq_true rfl) | exact .sloK (Nat.le_of_ble_eq_true rfl) | exact .ptrK (Nat.le_of_ble_eq_true rfl) | exact rs_pur (by simp) rfl)⟩, ⟨_, rfl, (by first | exact .mpK (Nat.le_of_ble_eq_true rfl) | exact .sloK (Nat.le_of_ble_eq_true rfl) | exact .ptrK (Nat.le_of_ble_eq_true rfl) | exact rs_pur (by simp) rfl)⟩, ⟨_, rfl, (by first | exact .mpK (Nat.le_of_ble_eq_true rfl) | exact .sloK (Nat.le_of_ble_eq_true rfl) | exact .ptrK (Nat.le_of_ble_eq_true rfl) | exact rs_pur (by simp) rfl)⟩, ⟨_, rfl, (by first | exact .mpK (Nat.le_of_ble_eq_true rfl) | exact .sloK (Nat.le_of_ble_eq_true rfl) | exact .ptrK (Nat.le_of_ble_eq_true rfl) | exact rs_pur (by simp) rfl)⟩, ⟨_, rfl, (by first | exact .mpK (Nat.le_of_ble_eq_true rfl) | exact .sloK (Nat.le_of_ble_eq_true rfl) | exact .ptrK (Nat.le_of_ble_eq_true rfl) | exact rs_pur (by simp) rfl)⟩, ⟨_, rfl, (by first | exact .mpK (Nat.le_of_ble_eq_true rfl) | exact .sloK (Nat.le_of_ble_eq_true rfl) | exact .ptrK (Nat.le_of_ble_eq_true rfl) | exact rs_pur (by simp) rfl)⟩, trivial⟩ ⟨ors_var ⟨rs_pur (by simp) rfl, rs_pur (by simp) rfl, rs_pur (by simp) rfl, rs_pur (by simp) rfl, rs_pur (by simp) rfl, trivial⟩, ors_var ⟨rs_pur (by simp) rfl, rs_pur (by simp) rfl, rs_pur (by simp) rfl, rs_pur (by simp) rfl, trivial⟩, ors_vec (pu_stop _), ors_vec (by simp), ors_vec (pu_int _), ors_var ⟨rs_pur (by simp) rfl, rs_pur (by simp) rfl, rs_pur (by simp) rfl, rs_pur (by simp) rfl, trivial⟩, ors_vec (pu_item1 _ _), trivial⟩ ?_
          refine w_reg (l := r34_18.toList) rfl r34_18_ok ?_
          refine a_op rfl (o_mv rfl) ?_
          refine a_op rfl (o_add rfl rfl (by simp only [klo, khi]; omega)) ?_
          refine a_op rfl (o_as rfl) ?_
          refine a_nil ?_
          refine tq_n ?_
          exact ⟨i + 1, ⟨⟨by omega, by omega⟩, by omega⟩, ⟨(by first | exact sub_int rfl (by omega) | rfl), (by first | exact sub_int rfl (by omega) | rfl), (by first | exact sub_int rfl (by omega) | rfl), (by first | exact sub_int rfl (by omega) | rfl), (by first | exact sub_int rfl (by omega) | rfl), (by first | exact sub_int rfl (by omega) | rfl), trivial⟩, by rw [range_map_succ, List.map_append, hit]; rfl⟩
        refine a_nil ?_
        refine tq_n ?_
        refine w_false rfl ?_
        refine awp_skip ?_
        refine tq_n ?_
        refine w_reg (l := r34_25.toList) rfl r34_25_ok ?_
        refine a_op rfl (o_mv rfl) ?_
        refine a_op rfl ((by first | exact o_ldg tg45 tn45 rfl rfl | exact o_ldpg tg45 tn45 rfl rfl rfl rfl)) ?_
        refine a_op rfl (o_bs tE43 (by decide) rfl rfl rfl) ?_
        refine a_op rfl (o_ap tE43 rfl rfl (by simp) rfl rfl rfl (by simp; omega) (by simp; omega) rfl rfl rfl rfl) ?_
        refine a_op rfl (o_as rfl) ?_
        refine a_nil ?_
        refine bq_n ?_
        refine tq_n ?_
        have hit : itemAt x i = ⟨1 + 7 * (i : Int), (stopsF x)[n].id, true, true⟩ := by
          simp only [itemAt, hng, getDi hi]
          rw [if_pos hns, getDg hns, if_neg (by omega), if_neg (by omega)]
        refine w_heq (H1 := [.var [.sl 1 b.b0 (x.vols.map u8AV), .sl 1 b.b1 (x.caps.map u8AV), .sl 1 b.b2 (x.picks.map u8AV), .sl 1 b.b3 (x.unread.map u8AV), .raw (.int .u8 x.sweeps)], .var [.raw (.slice none 0 0), .raw (.slice none 0 0), .raw (.slice none 0 0), .raw (.slice none 0 0)], .vec 2 (stopsF x).length ((stopsF x).map stopAV), .vec 1 0 [], .vec 1 v ((capsF x).map intAV), .var (planC b4F (planF x).1), .vec 4 (i + 1) ((((List.range i).map (itemAt x)).map itemAV) ++ [itemAV ⟨1 + 7 * (i : Int), (stopsF x)[n].id, true, true⟩]), .var (itemAV ⟨1 + 7 * (i : Int), (stopsF x)[n].id, true, true⟩).cells]) rfl ?_
        refine w_view [(1, .ptr 0 0), (2, .ptr 1 0), (5, .slo 2 (stopsF x).length 0 (stopsF x).length), (9, .ptr 5 0), (11, .slo 6 (i + 1) 0 (i + 1)), (12, .raw (.int .i64 ((i : Nat) : Int)))] [.var [.sl 1 b.b0 (x.vols.map u8AV), .sl 1 b.b1 (x.caps.map u8AV), .sl 1 b.b2 (x.picks.map u8AV), .sl 1 b.b3 (x.unread.map u8AV), .raw (.int .u8 x.sweeps)], .var [.raw (.slice none 0 0), .raw (.slice none 0 0), .raw (.slice none 0 0), .raw (.slice none 0 0)], .vec 2 (stopsF x).length ((stopsF x).map stopAV), .vec 1 0 [], .vec 1 v ((capsF x).map intAV), .var (planC b4F (planF x).1), .vec 4 (i + 1) ((((List.range i).map (itemAt x)).map itemAV) ++ [itemAV ⟨1 + 7 * (i : Int), (stopsF x)[n].id, true, true⟩])] 7 rfl (Nat.le_of_ble_eq_true rfl) (Nat.le_of_ble_eq_true rfl) ⟨⟨_, rfl, (by first | exact .mpK (Nat.le_of_ble_eq_true rfl) | exact .sloK (Nat.le_of_ble_eq_true rfl) | exact .ptrK (Nat.le_of_ble_eq_true rfl) | exact rs_pur (by simp) rfl)⟩, ⟨_, rfl, (by first | exact .mpK (Nat.le_of_ble_eq_true rfl) | exact .sloK (Nat.le_of_ble_eq_true rfl) | exact .ptrK (Nat.le_of_ble_eq_true rfl) | exact rs_pur (by simp) rfl)⟩, ⟨_, rfl, (by first | exact .mpK (Nat.le_of_ble_eq_true rfl) | exact .sloK (Nat.le_of_ble_eq_true rfl) | exact .ptrK (Nat.le_of_ble_eq_true rfl) | exact rs_pur (by simp) rfl)⟩, ⟨_, rfl, (by first | exact .mpK (Nat.le_of_ble_eq_true rfl) | exact .sloK (Nat.le_of_ble_eq_true rfl) | exact .ptrK (Nat.le_of_ble_eq_true rfl) | exact rs_pur (by simp) rfl)⟩, ⟨_, rfl, (by first | exact .mpK (Nat.le_of_ble_eq_true rfl) | exact .sloK (Nat.le_of_ble_eq_true rfl) | exact .ptrK (Nat.le_of_ble_eq_true rfl) | exact rs_pur (by simp) rfl)⟩, ⟨_, rfl, (by first | exact .mpK (Nat.le_of_ble_eq_true rfl) | exact .sloK (Nat.le_of_ble_eq_true rfl) | exact .ptrK (Nat.le_of_ble_eq_true rfl) | exact rs_pur (by simp) rfl)⟩, trivial⟩ ⟨ors_var ⟨rs_pur (by simp) rfl, rs_pur (by simp) rfl, rs_pur (by simp) rfl, rs_pur (by simp) rfl, rs_pur (by simp) rfl, trivial⟩, ors_var ⟨rs_pur (by simp) rfl, rs_pur (by simp) rfl, rs_pur (by simp) rfl, rs_pur (by simp) rfl, trivial⟩, ors_vec (pu_stop _), ors_vec (by simp), ors_vec (pu_int _), ors_var ⟨rs_pur (by simp) rfl, rs_pur (by simp) rfl, rs_pur (by simp) rfl, rs_pur (by simp) rfl, trivial⟩, ors_vec (pu_item1 _ _), trivial⟩ ?_
        refine w_reg (l := r34_18.toList) rfl r34_18_ok ?_
        refine a_op rfl (o_mv rfl) ?_
        refine a_op rfl (o_add rfl rfl (by simp only [klo, khi]; omega)) ?_
        refine a_op rfl (o_as rfl) ?_
        refine a_nil ?_
        refine tq_n ?_
        exact ⟨i + 1, ⟨⟨by omega, by omega⟩, by omega⟩, ⟨(by first | exact sub_int rfl (by omega) | rfl), (by first | exact sub_int rfl (by omega) | rfl), (by first | exact sub_int rfl (by omega) | rfl), (by first | exact sub_int rfl (by omega) | rfl), (by first | exact sub_int rfl (by omega) | rfl), (by first | exact sub_int rfl (by omega) | rfl), trivial⟩, by rw [range_map_succ, List.map_append, hit]; rfl⟩
      refine a_nil ?_
      refine tq_n ?_
      refine w_false rfl ?_
      refine awp_skip ?_
      refine tq_n ?_
      refine awp_seq ?_
      refine awp_seq ?_
      refine w_reg (l := r34_23.toList) rfl r34_23_ok ?_
      refine a_op rfl (o_mv rfl) ?_
      refine a_op rfl ((by first | exact o_fa tf82_3 rfl rfl | exact o_fap tf82_3 rfl rfl)) ?_
      refine a_op rfl ((by first | exact o_ld tg22 rfl rfl | exact o_ldp tg22 rfl rfl rfl rfl)) ?_
      refine a_op rfl (o_len rfl rfl (by first | exact List.length_map .. | rfl) tl22) ?_
      refine a_if rfl (o_lt rfl rfl) (fun h31 => ?_) (fun h32 => ?_)
      · refine a_nil ?_
        refine tq_n ?_
        refine w_true rfl ?_
        have hui : i < x.unread.length := by omega
        have hxu := hx.u _ (List.getElem_mem hui)
        unfold u8r at hxu
        refine awp_draw ⟨[[], [0], [], [0, 1, 2], [0, 1, 2, 3], [0, 1, 2, 3, 4], [0, 1, 2, 3, 4, 5], [], [7], [], [7, 8, 9], [7, 8, 9, 10], [7, 8, 9, 10, 11], [7, 8, 9, 10, 11, 12], [0, 1, 2, 3, 4, 5, 6], [0, 1, 2, 3, 4, 5, 6, 14], [0, 1, 2, 3, 4, 5, 6, 7, 8, 9, 10, 11, 12, 13, 14, 15], [0, 1, 2, 3, 4, 5, 6, 7, 8, 9, 10, 11, 12, 13, 14, 15, 16]], [[1], [105], [12], [106, 107], [108], [109], [110], [1], [112], [12], [113, 114], [115], [116], [117], [13], [111, 119], [13], [118, 120]], [[], [0], [], [], [], [], [], [], [0], [], [], [], [], [], [], [7], [], [7]], [none, none, none, none, none, none, none, none, none, none, none, none, none, none, none, some 7, none, some 7]⟩ mo r34_24_ok (by decide +kernel) (l := r34_24.toList) rfl ?_
        refine d_op rfl rfl rfl (fun _ => (by first | exact o_fa tf82_3 rfl rfl | exact o_fap tf82_3 rfl rfl)) ?_
        refine d_op rfl rfl rfl (fun _ => (by first | exact o_ld tg22 rfl rfl | exact o_ldp tg22 rfl rfl rfl rfl)) ?_
        refine d_op rfl rfl rfl (fun _ => o_mv rfl) ?_
        refine d_op rfl rfl rfl (fun _ => o_ix te22 tn5 rfl rfl rfl (ixm _ _ _ hui)) ?_
        refine d_op rfl rfl rfl (fun _ => (by first | exact o_ld tg5 rfl rfl | exact o_ldp tg5 rfl rfl rfl rfl)) ?_
        refine d_op rfl rfl rfl (fun _ => o_rem rfl rfl (by omega) (by omega)) ?_
        refine d_op rfl rfl rfl (fun _ => o_ne rfl rfl) ?_
        refine d_op rfl rfl rfl (fun _ => (by first | exact o_fa tf82_3 rfl rfl | exact o_fap tf82_3 rfl rfl)) ?_
        refine d_op rfl rfl rfl (fun _ => (by first | exact o_ld tg22 rfl rfl | exact o_ldp tg22 rfl rfl rfl rfl)) ?_
        refine d_op rfl rfl rfl (fun _ => o_mv rfl) ?_
        refine d_op rfl rfl rfl (fun _ => o_ix te22 tn5 rfl rfl rfl (ixm _ _ _ hui)) ?_
        refine d_op rfl rfl rfl (fun _ => (by first | exact o_ld tg5 rfl rfl | exact o_ldp tg5 rfl rfl rfl rfl)) ?_
        refine d_op rfl rfl rfl (fun _ => o_rem rfl rfl (by omega) (by omega)) ?_
        refine d_op rfl rfl rfl (fun _ => o_ne rfl rfl) ?_
        refine d_op rfl rfl rfl (fun _ => (by first | exact o_fa tf45_2 rfl rfl | exact o_fap tf45_2 rfl rfl)) ?_
        refine d_w0 rfl rfl rfl (fun _ => o_stD (N := 0) tn4 rfl rfl (by first | exact good_slo rfl | rfl) rfl rfl rfl) rfl rfl rfl ?_
        refine d_op rfl rfl rfl (fun _ => (by first | exact o_fa tf45_3 rfl rfl | exact o_fap tf45_3 rfl rfl)) ?_
        refine d_w0 rfl rfl rfl (fun _ => o_stD (N := 0) tn4 rfl rfl (by first | exact good_slo rfl | rfl) rfl rfl rfl) rfl rfl rfl ?_
        refine d_nil ?_
        refine tq_n ?_
        refine w_reg (l := r34_25.toList) rfl r34_25_ok ?_
        refine a_op rfl (o_mv rfl) ?_
        refine a_op rfl ((by first | exact o_ldg tg45 tn45 rfl rfl | exact o_ldpg tg45 tn45 rfl rfl rfl rfl)) ?_
        refine a_op rfl (o_bs tE43 (by decide) rfl rfl rfl) ?_
        refine a_op rfl (o_ap tE43 rfl rfl (by simp) rfl rfl rfl (by simp; omega) (by simp; omega) rfl rfl rfl rfl) ?_
        refine a_op rfl (o_as rfl) ?_
        refine a_nil ?_
        refine bq_n ?_
        refine tq_n ?_
        have hit : itemAt x i = ⟨1 + 7 * (i : Int), 0, decide (x.unread[i] % 8 ≠ 0), decide (x.unread[i] % 8 ≠ 1)⟩ := by
          simp only [itemAt, hng, getDi hi, getDi hui]
          rw [if_neg (by omega), if_pos hui, if_pos hui]
        refine w_heq (H1 := [.var [.sl 1 b.b0 (x.vols.map u8AV), .sl 1 b.b1 (x.caps.map u8AV), .sl 1 b.b2 (x.picks.map u8AV), .sl 1 b.b3 (x.unread.map u8AV), .raw (.int .u8 x.sweeps)], .var [.raw (.slice none 0 0), .raw (.slice none 0 0), .raw (.slice none 0 0), .raw (.slice none 0 0)], .vec 2 (stopsF x).length ((stopsF x).map stopAV), .vec 1 0 [], .vec 1 v ((capsF x).map intAV), .var (planC b4F (planF x).1), .vec 4 (i + 1) ((((List.range i).map (itemAt x)).map itemAV) ++ [itemAV ⟨1 + 7 * (i : Int), 0, decide (x.unread[i] % 8 ≠ 0), decide (x.unread[i] % 8 ≠ 1)⟩]), .var (itemAV ⟨1 + 7 * (i : Int), 0, decide (x.unread[i] % 8 ≠ 0), decide (x.unread[i] % 8 ≠ 1)⟩).cells]) rfl ?_
        refine w_view [(1, .ptr 0 0), (2, .ptr 1 0), (5, .slo 2 (stopsF x).length 0 (stopsF x).length), (9, .ptr 5 0), (11, .slo 6 (i + 1) 0 (i + 1)), (12, .raw (.int .i64 ((i : Nat) : Int)))] [.var [.sl 1 b.b0 (x.vols.map u8AV), .sl 1 b.b1 (x.caps.map u8AV), .sl 1 b.b2 (x.picks.map u8AV), .sl 1 b.b3 (x.unread.map u8AV), .raw (.int .u8 x.sweeps)], .var [.raw (.slice none 0 0), .raw (.slice none 0 0), .raw (.slice none 0 0), .raw (.slice none 0 0)], .vec 2 (stopsF x).length ((stopsF x).map stopAV), .vec 1 0 [], .vec 1 v ((capsF x).map intAV), .var (planC b4F (planF x).1), .vec 4 (i + 1) ((((List.range i).map (itemAt x)).map itemAV) ++ [itemAV ⟨1 + 7 * (i : Int), 0, decide (x.unread[i] % 8 ≠ 0), decide (x.unread[i] % 8 ≠ 1)⟩])] 7 rfl (Nat.le_of_ble_eq_true rfl) (Nat.le_of_ble_eq_true rfl) ⟨⟨_, rfl, (by first | exact .mpK (Nat.le_of_ble_eq_true rfl) | exact .sloK (Nat.le_of_ble_eq_true rfl) | exact .ptrK (Nat.le_of_ble_eq_true rfl) | exact rs_pur (by simp) rfl)⟩, ⟨_, rfl, (by first | exact .mpK (Nat.le_of_ble_eq_true rfl) | exact .sloK (Nat.le_of_ble_eq_true rfl) | exact .ptrK (Nat.le_of_ble_eq_true rfl) | exact rs_pur (by simp) rfl)⟩, ⟨_, rfl, (by first | exact .mpK (Nat.le_of_ble_eq_true rfl) | exact .sloK (Nat.le_of_ble_eq_true rfl) | exact .ptrK (Nat.le_of_ble_eq_true rfl) | exact rs_pur (by simp) rfl)⟩, ⟨_, rfl, (by first | exact .mpK (Nat.le_of_ble_eq_true rfl) | exact .sloK (Nat.le_of_ble_eq_true rfl) | exact .ptrK (Nat.le_of_ble_eq_true rfl) | exact rs_pur (by simp) rfl)⟩, ⟨_, rfl, (by first | exact .mpK (Nat.le_of_ble_eq_true rfl) | exact .sloK (Nat.le_of_ble_eq_true rfl) | exact .ptrK (Nat.le_of_ble_eq_true rfl) | exact rs_pur (by simp) rfl)⟩, ⟨_, rfl, (by first | exact .mpK (Nat.le_of_ble_eq_true rfl) | exact .sloK (Nat.le_of_ble_eq_true rfl) | exact .ptrK (Nat.le_of_ble_eq_true rfl) | exact rs_pur (by simp) rfl)⟩, trivial⟩ ⟨ors_var ⟨rs_pur (by simp) rfl, rs_pur (by simp) rfl, rs_pur (by simp) rfl, rs_pur (by simp) rfl, rs_pur (by simp) rfl, trivial⟩, ors_var ⟨rs_pur (by simp) rfl, rs_pur (by simp) rfl, rs_pur (by simp) rfl, rs_pur (by simp) rfl, trivial⟩, ors_vec (pu_stop _), ors_vec (by simp), ors_vec (pu_int _), ors_var ⟨rs_pur (by simp) rfl, rs_pur (by simp) rfl, rs_pur (by simp) rfl, rs_pur (by simp) rfl, trivial⟩, ors_vec (pu_item1 _ _), trivial⟩ ?_
        refine w_reg (l := r34_18.toList) rfl r34_18_ok ?_
        refine a_op rfl (o_mv rfl) ?_
        refine a_op rfl (o_add rfl rfl (by simp only [klo, khi]; omega)) ?_
        refine a_op rfl (o_as rfl) ?_
        refine a_nil ?_
        refine tq_n ?_
        exact ⟨i + 1, ⟨⟨by omega, by omega⟩, by omega⟩, ⟨(by first | exact sub_int rfl (by omega) | rfl), (by first | exact sub_int rfl (by omega) | rfl), (by first | exact sub_int rfl (by omega) | rfl), (by first | exact sub_int rfl (by omega) | rfl), (by first | exact sub_int rfl (by omega) | rfl), (by first | exact sub_int rfl (by omega) | rfl), trivial⟩, by rw [range_map_succ, List.map_append, hit]; rfl⟩
      refine a_nil ?_
      refine tq_n ?_
      refine w_false rfl ?_
      refine awp_skip ?_
      refine tq_n ?_
      refine w_reg (l := r34_25.toList) rfl r34_25_ok ?_
      refine a_op rfl (o_mv rfl) ?_
      refine a_op rfl ((by first | exact o_ldg tg45 tn45 rfl rfl | exact o_ldpg tg45 tn45 rfl rfl rfl rfl)) ?_
      refine a_op rfl (o_bs tE43 (by decide) rfl rfl rfl) ?_
      refine a_op rfl (o_ap tE43 rfl rfl (by simp) rfl rfl rfl (by simp; omega) (by simp; omega) rfl rfl rfl rfl) ?_
      refine a_op rfl (o_as rfl) ?_
      refine a_nil ?_
      refine bq_n ?_
      refine tq_n ?_
      have hit : itemAt x i = ⟨1 + 7 * (i : Int), 0, true, true⟩ := by
        simp only [itemAt, hng, getDi hi]
        rw [if_neg (by omega), if_neg (by omega), if_neg (by omega)]
      refine w_heq (H1 := [.var [.sl 1 b.b0 (x.vols.map u8AV), .sl 1 b.b1 (x.caps.map u8AV), .sl 1 b.b2 (x.picks.map u8AV), .sl 1 b.b3 (x.unread.map u8AV), .raw (.int .u8 x.sweeps)], .var [.raw (.slice none 0 0), .raw (.slice none 0 0), .raw (.slice none 0 0), .raw (.slice none 0 0)], .vec 2 (stopsF x).length ((stopsF x).map stopAV), .vec 1 0 [], .vec 1 v ((capsF x).map intAV), .var (planC b4F (planF x).1), .vec 4 (i + 1) ((((List.range i).map (itemAt x)).map itemAV) ++ [itemAV ⟨1 + 7 * (i : Int), 0, true, true⟩]), .var (itemAV ⟨1 + 7 * (i : Int), 0, true, true⟩).cells]) rfl ?_
      refine w_view [(1, .ptr 0 0), (2, .ptr 1 0), (5, .slo 2 (stopsF x).length 0 (stopsF x).length), (9, .ptr 5 0), (11, .slo 6 (i + 1) 0 (i + 1)), (12, .raw (.int .i64 ((i : Nat) : Int)))] [.var [.sl 1 b.b0 (x.vols.map u8AV), .sl 1 b.b1 (x.caps.map u8AV), .sl 1 b.b2 (x.picks.map u8AV), .sl 1 b.b3 (x.unread.map u8AV), .raw (.int .u8 x.sweeps)], .var [.raw (.slice none 0 0), .raw (.slice none 0 0), .raw (.slice none 0 0), .raw (.slice none 0 0)], .vec 2 (stopsF x).length ((stopsF x).map stopAV), .vec 1 0 [], .vec 1 v ((capsF x).map intAV), .var (planC b4F (planF x).1), .vec 4 (i + 1) ((((List.range i).map (itemAt x)).map itemAV) ++ [itemAV ⟨1 + 7 * (i : Int), 0, true, true⟩])] 7 rfl (Nat.le_of_ble_eq_true rfl) (Nat.le_of_ble_eq_true rfl) ⟨⟨_, rfl, (by first | exact .mpK (Nat.le_of_ble_eq_true rfl) | exact .sloK (Nat.le_of_ble_eq_true rfl) | exact .ptrK (Nat.le_of_ble_eq_true rfl) | exact rs_pur (by simp) rfl)⟩, ⟨_, rfl, (by first | exact .mpK (Nat.le_of_ble_eq_true rfl) | exact .sloK (Nat.le_of_ble_eq_true rfl) | exact .ptrK (Nat.le_of_ble_eq_true rfl) | exact rs_pur (by simp) rfl)⟩, ⟨_, rfl, (by first | exact .mpK (Nat.le_of_ble_eq_true rfl) | exact .sloK (Nat.le_of_ble_eq_true rfl) | exact .ptrK (Nat.le_of_ble_eq_true rfl) | exact rs_pur (by simp) rfl)⟩, ⟨_, rfl, (by first | exact .mpK (Nat.le_of_ble_eq_true rfl) | exact .sloK (Nat.le_of_ble_eq_true rfl) | exact .ptrK (Nat.le_of_ble_eq_true rfl) | exact rs_pur (by simp) rfl)⟩, ⟨_, rfl, (by first | exact .mpK (Nat.le_of_ble_eq_true rfl) | exact .sloK (Nat.le_of_ble_eq_true rfl) | exact .ptrK (Nat.le_of_ble_eq_true rfl) | exact rs_pur (by simp) rfl)⟩, ⟨_, rfl, (by first | exact .mpK (Nat.le_of_ble_eq_true rfl) | exact .sloK (Nat.le_of_ble_eq_true rfl) | exact .ptrK (Nat.le_of_ble_eq_true rfl) | exact rs_pur (by simp) rfl)⟩, trivial⟩ ⟨ors_var ⟨rs_pur (by simp) rfl, rs_pur (by simp) rfl, rs_pur (by simp) rfl, rs_pur (by simp) rfl, rs_pur (by simp) rfl, trivial⟩, ors_var ⟨rs_pur (by simp) rfl, rs_pur (by simp) rfl, rs_pur (by simp) rfl, rs_pur (by simp) rfl, trivial⟩, ors_vec (pu_stop _), ors_vec (by simp), ors_vec (pu_int _), ors_var ⟨rs_pur (by simp) rfl, rs_pur (by simp) rfl, rs_pur (by simp) rfl, rs_pur (by simp) rfl, trivial⟩, ors_vec (pu_item1 _ _), trivial⟩ ?_
      refine w_reg (l := r34_18.toList) rfl r34_18_ok ?_
      refine a_op rfl (o_mv rfl) ?_
      refine a_op rfl (o_add rfl rfl (by simp only [klo, khi]; omega)) ?_
      refine a_op rfl (o_as rfl) ?_
      refine a_nil ?_
      refine tq_n ?_
      exact ⟨i + 1, ⟨⟨by omega, by omega⟩, by omega⟩, ⟨(by first | exact sub_int rfl (by omega) | rfl), (by first | exact sub_int rfl (by omega) | rfl), (by first | exact sub_int rfl (by omega) | rfl), (by first | exact sub_int rfl (by omega) | rfl), (by first | exact sub_int rfl (by omega) | rfl), (by first | exact sub_int rfl (by omega) | rfl), trivial⟩, by rw [range_map_succ, List.map_append, hit]; rfl⟩
    refine a_op rfl (o_pkt rfl rfl) ?_
    refine a_nil ?_
    refine tq_n ?_
    refine w_false rfl ?_
    refine awp_exit ?_
    refine tq_x ?_
    refine tq_x ?_
    refine bq_hit ?_
    refine tq_n ?_
    refine awp_seq ?_
    refine w_reg (l := r34_26.toList) rfl r34_26_ok ?_
    refine a_op rfl ((by first | exact o_ldg tg51 tn51 rfl rfl | exact o_ldpg tg51 tn51 rfl rfl rfl rfl)) ?_
    refine a_op rfl (o_mv rfl) ?_
    refine a_op0 rfl (o_st (N := 3) tn51 rfl rfl (by first | exact good_slo rfl | rfl) rfl rfl) ?_
    refine a_op rfl (o_as rfl) ?_
    refine a_op rfl (o_as rfl) ?_
    refine a_nil ?_
    refine tq_n ?_
    refine awp_ret ?_
    refine r_tup (xs := [_]) rfl ⟨c_ag tg51 tn51 rfl rfl, rfl, rfl, trivial⟩ ?_
    have hr : builtF x = (((planF x).1, itemsF x), true) := by rw [builtF, if_pos (by omega)]
    rw [hr]
    exact rs_tup ⟨rs_pur (by simp) rfl, rs_slo id rfl (by simp) (pu_item _) (by rw [itemsF, show i = min x.picks.length 200 by omega]), .raw _, trivial⟩
  refine a_op rfl (o_mv rfl) ?_
  refine a_off rfl ?_
  refine a_off rfl ?_
  refine a_op rfl (o_pkf rfl rfl) ?_
  refine a_nil ?_
  refine tq_n ?_
  refine w_false rfl ?_
  refine awp_exit ?_
  refine tq_x ?_
  refine tq_x ?_
  refine bq_hit ?_
  refine tq_n ?_
  refine awp_seq ?_
  refine w_reg (l := r34_26.toList) rfl r34_26_ok ?_
  refine a_op rfl ((by first | exact o_ldg tg51 tn51 rfl rfl | exact o_ldpg tg51 tn51 rfl rfl rfl rfl)) ?_
  refine a_op rfl (o_mv rfl) ?_
  refine a_op0 rfl (o_st (N := 3) tn51 rfl rfl (by first | exact good_slo rfl | rfl) rfl rfl) ?_
  refine a_op rfl (o_as rfl) ?_
  refine a_op rfl (o_as rfl) ?_
  refine a_nil ?_
  refine tq_n ?_
  refine awp_ret ?_
  refine r_tup (xs := [_]) rfl ⟨c_ag tg51 tn51 rfl rfl, rfl, rfl, trivial⟩ ?_
  have hr : builtF x = (((planF x).1, itemsF x), true) := by rw [builtF, if_pos (by omega)]
  rw [hr]
  exact rs_tup ⟨rs_pur (by simp) rfl, rs_slo id rfl (by simp) (pu_item _) (by rw [itemsF, show i = min x.picks.length 200 by omega]), .raw _, trivial⟩
noncomputable def r35_0 : Array Oper := opsAt Try.f35 [0]
theorem r35_0_ok : dstOk 21 r35_0.toList = true ∧ r35_0.toList.all (fun o => noDefer o.op) = true := by decide +kernel
noncomputable def r35_1 : Array Oper := opsAt Try.f35 [1, 0, 0]
theorem r35_1_ok : dstOk 21 r35_1.toList = true ∧ r35_1.toList.all (fun o => noDefer o.op) = true := by decide +kernel
noncomputable def r35_2 : Array Oper := opsAt Try.f35 [1, 0, 1, 0, 0, 0]
theorem r35_2_ok : dstOk 21 r35_2.toList = true ∧ r35_2.toList.all (fun o => noDefer o.op) = true := by decide +kernel
noncomputable def r35_3 : Array Oper := opsAt Try.f35 [1, 0, 1, 0, 0, 1, 1, 0, 0, 0]
theorem r35_3_ok : dstOk 21 r35_3.toList = true ∧ r35_3.toList.all (fun o => noDefer o.op) = true := by decide +kernel
noncomputable def r35_4 : Array Oper := opsAt Try.f35 [1, 0, 1, 0, 0, 1, 1, 0, 0, 1, 0]
theorem r35_4_ok : dstOk 21 r35_4.toList = true ∧ r35_4.toList.all (fun o => noDefer o.op) = true := by decide +kernel
noncomputable def r35_5 : Array Oper := opsAt Try.f35 [1, 0, 1, 0, 0, 1, 1, 0, 0, 1, 1, 0, 0]
theorem r35_5_ok : dstOk 21 r35_5.toList = true ∧ r35_5.toList.all (fun o => noDefer o.op) = true := by decide +kernel
noncomputable def r35_6 : Array Oper := opsAt Try.f35 [1, 0, 1, 0, 0, 1, 1, 1]
theorem r35_6_ok : dstOk 21 r35_6.toList = true ∧ r35_6.toList.all (fun o => noDefer o.op) = true := by decide +kernel
noncomputable def b35_0 : Code := (.seq (.region 2 r35_2 false) (.seq (.cond (.tmp 11) .skip (.exit 0)) (.seq (.block 1 (.seq (.region 3 r35_3 false) (.seq (.region 4 r35_4 false) (.cond (.tmp 18) (.seq (.region 5 r35_5 false) .ret) .skip)))) (.region 6 r35_6 false))))
noncomputable def r35_7 : Array Oper := opsAt Try.f35 [1, 1, 0]
theorem r35_7_ok : dstOk 21 r35_7.toList = true ∧ r35_7.toList.all (fun o => noDefer o.op) = true := by decide +kernel
noncomputable def c35 : Code := (.seq (.region 0 r35_0 false) (.seq (.seq (.region 1 r35_1 false) (.block 0 (.loop b35_0))) (.seq (.region 7 r35_7 false) .ret)))
theorem body35 : Try.f35.body = some c35 := by kernel_rfl
theorem seat_ok (b : B4) (p : PlanR) (hl : p.seats.length ≤ 4611686018427387904) (k : Int) : PureCall Try.prog GL 35 [planAV b p, .raw (.int .i64 k)] (.raw (.int .i64 (seatI p k))) := by
  refine pure_of_body Try.func35 body35 (Nat.le_of_ble_eq_true rfl) (by simp) (by simp) ?_
  refine w_keep [(0, planAV b p), (1, .raw (.int .i64 k))] ⟨rfl, rfl, trivial⟩ ?_
  unfold c35
  refine awp_seq ?_
  refine w_reg (l := r35_0.toList) rfl r35_0_ok ?_
  refine a_op rfl (o_box (N := 0) rfl (by rfl) rfl rfl) ?_
  refine a_op rfl (o_as rfl) ?_
  refine a_nil ?_
  refine tq_n ?_
  refine awp_seq ?_
  refine awp_seq ?_
  refine w_reg (l := r35_1.toList) rfl r35_1_ok ?_
  refine a_op rfl ((by first | exact o_fa tf51_1 rfl rfl | exact o_fap tf51_1 rfl rfl)) ?_
  refine a_op rfl ((by first | exact o_ld tg49 rfl rfl | exact o_ldp tg49 rfl rfl rfl rfl)) ?_
  refine a_op rfl (o_len rfl rfl (by first | exact List.length_map .. | rfl) tl49) ?_
  refine a_op rfl (o_mv rfl) ?_
  refine a_nil ?_
  refine tq_n ?_
  refine awp_block ?_
  refine w_loop (fun i : Nat => i ≤ p.seats.length ∧ ∀ j, j < i → decide ((p.seats.getD j s0R).stop = k) = false) (fun i => [(1, .raw (.int .i64 k)), (2, .ptr 0 0), (8, .sl 4 b.b1 (p.seats.map seatAV)), (9, .raw (.int .i64 ((p.seats.length : Nat) : Int))), (10, .raw (.int .i64 ((i : Nat) : Int)))]) (fun _ => [.var (planC b p)]) (fun i => p.seats.length - i) (0) ⟨by simp, by simp⟩ ⟨(by first | exact sub_int rfl (by omega) | rfl), (by first | exact sub_int rfl (by omega) | rfl), (by first | exact sub_int rfl (by omega) | rfl), (by first | exact sub_int rfl (by omega) | rfl), (by first | exact sub_int rfl (by omega) | rfl), trivial⟩ rfl ?_
  intro i ⟨hp, hq⟩
  unfold b35_0
  refine awp_seq ?_
  refine w_reg (l := r35_2.toList) rfl r35_2_ok ?_
  refine a_if rfl (o_lt rfl rfl) (fun h1 => ?_) (fun h2 => ?_)
  · refine a_nil ?_
    refine tq_n ?_
    refine awp_seq ?_
    refine w_true rfl ?_
    refine awp_skip ?_
    refine tq_n ?_
    refine awp_seq ?_
    refine awp_block ?_
    refine awp_seq ?_
    have hi : i < p.seats.length := by omega
    refine w_reg (l := r35_3.toList) rfl r35_3_ok ?_
    refine a_op rfl (o_mv rfl) ?_
    refine a_op rfl (o_ix te49 tn89 rfl rfl rfl (ixm _ _ _ hi)) ?_
    refine a_op rfl ((by first | exact o_ldg tg89 tn89 rfl rfl | exact o_ldpg tg89 tn89 rfl rfl rfl rfl)) ?_
    refine a_op rfl (o_al (N := 1) tz89 rfl rfl rfl) ?_
    refine a_op rfl (o_as rfl) ?_
    refine a_op0 rfl (o_st (N := 3) tn89 rfl rfl rfl rfl rfl) ?_
    refine a_nil ?_
    refine tq_n ?_
    refine awp_seq ?_
    refine w_reg (l := r35_4.toList) rfl r35_4_ok ?_
    refine a_op rfl ((by first | exact o_fa tf89_0 rfl rfl | exact o_fap tf89_0 rfl rfl)) ?_
    refine a_op rfl ((by first | exact o_ld tg3 rfl rfl | exact o_ldp tg3 rfl rfl rfl rfl)) ?_
    refine a_op rfl (o_mv rfl) ?_
    refine a_if rfl (o_eq rfl rfl) (fun h3 => ?_) (fun h4 => ?_)
    · refine a_nil ?_
      refine tq_n ?_
      refine w_true rfl ?_
      refine awp_seq ?_
      refine w_reg (l := r35_5.toList) rfl r35_5_ok ?_
      refine a_op rfl (o_mv rfl) ?_
      refine a_op rfl (o_as rfl) ?_
      refine a_nil ?_
      refine tq_n ?_
      refine awp_ret ?_
      refine bq_r ?_
      refine tq_r ?_
      refine tq_r ?_
      refine bq_r ?_
      refine tq_r ?_
      refine r_one rfl ⟨rfl, trivial⟩ ?_
      exact rs_int (fxI_hit hi hq (by rw [getDg hi]; simp; assumption)).symm
    refine a_nil ?_
    refine tq_n ?_
    refine w_false rfl ?_
    refine awp_skip ?_
    refine bq_n ?_
    refine tq_n ?_
    refine w_view [(1, .raw (.int .i64 k)), (2, .ptr 0 0), (8, .sl 4 b.b1 (p.seats.map seatAV)), (9, .raw (.int .i64 ((p.seats.length : Nat) : Int))), (10, .raw (.int .i64 ((i : Nat) : Int)))] [.var (planC b p)] 1 rfl (Nat.le_of_ble_eq_true rfl) (Nat.le_of_ble_eq_true rfl) ⟨⟨_, rfl, (by first | exact .mpK (Nat.le_of_ble_eq_true rfl) | exact .sloK (Nat.le_of_ble_eq_true rfl) | exact .ptrK (Nat.le_of_ble_eq_true rfl) | exact rs_pur (by simp) rfl)⟩, ⟨_, rfl, (by first | exact .mpK (Nat.le_of_ble_eq_true rfl) | exact .sloK (Nat.le_of_ble_eq_true rfl) | exact .ptrK (Nat.le_of_ble_eq_true rfl) | exact rs_pur (by simp) rfl)⟩, ⟨_, rfl, (by first | exact .mpK (Nat.le_of_ble_eq_true rfl) | exact .sloK (Nat.le_of_ble_eq_true rfl) | exact .ptrK (Nat.le_of_ble_eq_true rfl) | exact rs_pur (by simp) rfl)⟩, ⟨_, rfl, (by first | exact .mpK (Nat.le_of_ble_eq_true rfl) | exact .sloK (Nat.le_of_ble_eq_true rfl) | exact .ptrK (Nat.le_of_ble_eq_true rfl) | exact rs_pur (by simp) rfl)⟩, ⟨_, rfl, (by first | exact .mpK (Nat.le_of_ble_eq_true rfl) | exact .sloK (Nat.le_of_ble_eq_true rfl) | exact .ptrK (Nat.le_of_ble_eq_true rfl) | exact rs_pur (by simp) rfl)⟩, trivial⟩ ⟨ors_var ⟨rs_pur (by simp) rfl, rs_pur (by simp) rfl, rs_pur (by simp) rfl, rs_pur (by simp) rfl, trivial⟩, trivial⟩ ?_
    refine w_reg (l := r35_6.toList) rfl r35_6_ok ?_
    refine a_op rfl (o_add rfl rfl (by simp only [klo, khi]; omega)) ?_
    refine a_op rfl (o_mv rfl) ?_
    refine a_nil ?_
    refine tq_n ?_
    exact ⟨i + 1, ⟨⟨by omega, all_succ hq (by rw [getDg hi]; simp; assumption)⟩, by omega⟩, ⟨(by first | exact sub_int rfl (by omega) | rfl), (by first | exact sub_int rfl (by omega) | rfl), (by first | exact sub_int rfl (by omega) | rfl), (by first | exact sub_int rfl (by omega) | rfl), (by first | exact sub_int rfl (by omega) | rfl), trivial⟩, rfl⟩
  refine a_nil ?_
  refine tq_n ?_
  refine awp_seq ?_
  refine w_false rfl ?_
  refine awp_exit ?_
  refine tq_x ?_
  refine tq_x ?_
  refine bq_hit ?_
  refine tq_n ?_
  refine awp_seq ?_
  refine w_reg (l := r35_7.toList) rfl r35_7_ok ?_
  refine a_op rfl (o_as rfl) ?_
  refine a_nil ?_
  refine tq_n ?_
  refine awp_ret ?_
  refine r_one rfl ⟨rfl, trivial⟩ ?_
  exact rs_int (fxI_none (by rw [show i = p.seats.length by omega] at hq; exact hq)).symm
end Go.Ab.S
namespace Go.Ab.S
open Go Go.Ab Go.Proofs
/-! ### what Make makes passes Check -/
section
variable {caps : List Int} {most : Int} {stops : List StopR}
theorem gi_all (h0 : 0 ≤ most) (hv : ∀ x ∈ stops, 1 ≤ x.vol ∧ x.vol ≤ 10000) : ∀ i, i ≤ (tryS caps most stops).length → i ≤ stops.length → GI caps most stops i
  | 0, _, _ => .zero h0
  | i + 1, h, h' => by
    have hg := gi_all h0 hv i (by omega) (by omega)
    have hi : i < stops.length := by omega
    have hne : (adv caps most stops[i].vol (gsAt caps most stops i)).at_ ≠ caps.length := fun e => by have := hg.stop hi e; omega
    exact (hg.next hi hne (hv _ (List.getElem_mem hi))).2.2.1
theorem tryS_le : (tryS caps most stops).length ≤ stops.length := by
  have : ∀ (l : List StopR) (s : GS), (seatsR caps most l s).length ≤ l.length := fun l => by
    induction l with
    | nil => intro s; simp [seatsR]
    | cons x t ih => intro s; rw [seatsR]; split
                     · simp
                     · simpa using ih _
  exact this _ _
/-- The seats, one by one. -/
theorem tryS_at (h0 : 0 ≤ most) (hv : ∀ x ∈ stops, 1 ≤ x.vol ∧ x.vol ≤ 10000) {i : Nat} (hi : i < (tryS caps most stops).length) :
    ∃ hs : i < stops.length, (tryS caps most stops)[i] = seatAt (adv caps most stops[i].vol (gsAt caps most stops i)) stops[i] ∧ GI caps most stops i ∧
      0 ≤ (adv caps most stops[i].vol (gsAt caps most stops i)).many ∧ (adv caps most stops[i].vol (gsAt caps most stops i)).many < most ∧ (adv caps most stops[i].vol (gsAt caps most stops i)).at_ < caps.length ∧ gsAt caps most stops (i + 1) = nxt caps most (gsAt caps most stops i) stops[i] := by
  have hs : i < stops.length := by have := tryS_le (caps := caps) (most := most) (stops := stops); omega
  have hg := gi_all (caps := caps) h0 hv i (by omega) (by omega)
  have hne : (adv caps most stops[i].vol (gsAt caps most stops i)).at_ ≠ caps.length := fun e => by have := hg.stop hs e; omega
  obtain ⟨_, b, _, d, e, f, g⟩ := hg.next hs hne (hv _ (List.getElem_mem hs))
  exact ⟨hs, b, hg, d, e, f, g⟩
/-- The loads of the second pass so far. -/
def L2ok (caps : List Int) (most : Int) (stops : List StopR) (i : Nat) : Prop := ∀ k, k < caps.length →
  (k < (gsAt caps most stops i).at_ → (loadS caps.length (·.snd) (tryS caps most stops) i).getD k 0 ≤ caps.getD k 0) ∧
  (k = (gsAt caps most stops i).at_ → (loadS caps.length (·.snd) (tryS caps most stops) i).getD k 0 = (gsAt caps most stops i).load ∧ (gsAt caps most stops i).load ≤ caps.getD k 0) ∧
  ((gsAt caps most stops i).at_ < k → (loadS caps.length (·.snd) (tryS caps most stops) i).getD k 0 = 0)
theorem l2ok (hc : ∀ c ∈ caps, 1 ≤ c) (h0 : 0 ≤ most) (hv : ∀ x ∈ stops, 1 ≤ x.vol ∧ x.vol ≤ 10000) : ∀ i, i ≤ (tryS caps most stops).length → L2ok caps most stops i
  | 0, _ => by
    intro k hk
    have hck := hc _ (List.getElem_mem hk)
    rw [← getDi hk] at hck
    have e : (loadS caps.length (·.snd) (tryS caps most stops) 0).getD k 0 = 0 := by rw [loadS, getD_repl]
    rw [e]
    exact ⟨fun _ => by omega, fun _ => ⟨rfl, by show (0 : Int) ≤ _; omega⟩, fun _ => rfl⟩
  | i + 1, h => by
    have ih := l2ok hc h0 hv i (by omega)
    obtain ⟨hs, hse, hg, hm0, hm1, hat, hgn⟩ := tryS_at (caps := caps) h0 hv (show i < (tryS caps most stops).length by omega)
    obtain ⟨a1, a2, a3, a4⟩ := adv_in (caps := caps) (most := most) (v := stops[i].vol) hg.ha
    have hroom := (a4 hat).2
    have hl := loadS_len caps.length (·.snd) (tryS caps most stops) i
    have e1 : loadS caps.length (·.snd) (tryS caps most stops) (i + 1) = (loadS caps.length (·.snd) (tryS caps most stops) i).set (adv caps most stops[i].vol (gsAt caps most stops i)).at_ ((loadS caps.length (·.snd) (tryS caps most stops) i).getD (adv caps most stops[i].vol (gsAt caps most stops i)).at_ 0 + stops[i].vol) := by
      rw [loadS_succ (k := (adv caps most stops[i].vol (gsAt caps most stops i)).at_) (by omega) (by rw [hse]; rfl) (by omega), hse, getDi (by omega)]; rfl
    generalize hA : adv caps most stops[i].vol (gsAt caps most stops i) = A at *
    intro k hk
    have ihk := ih k hk
    have ihA := ih A.at_ hat
    rw [e1, gset (by omega), hgn]
    simp only [nxt, hA]
    -- what the stacker holds before
    have hold : (loadS caps.length (·.snd) (tryS caps most stops) i).getD A.at_ 0 = A.load := by
      rcases a3 with a3 | ⟨_, b2, b3⟩
      · rw [a3] at ihA ⊢; exact (ihA.2.1 rfl).1
      · rw [ihA.2.2 b3, b2]
    refine ⟨fun hk1 => ?_, fun hk1 => ?_, fun hk1 => ?_⟩
    · rw [if_neg (by omega)]
      rcases Nat.lt_trichotomy k (gsAt caps most stops i).at_ with h1 | h1 | h1
      · exact ihk.1 h1
      · have := ihk.2.1 h1; omega
      · rw [ihk.2.2 h1]
        have := hc _ (List.getElem_mem hk)
        rw [getDi hk]; omega
    · subst hk1
      rw [if_pos rfl, hold]; omega
    · rw [if_neg (by omega)]
      exact ihk.2.2 (by omega)
theorem tryS_stops (h0 : 0 ≤ most) (hv : ∀ x ∈ stops, 1 ≤ x.vol ∧ x.vol ≤ 10000) (hl : (tryS caps most stops).length = stops.length) : (tryS caps most stops).map stopOf = stops := by
  refine List.ext_getElem (by simpa using hl) (fun i h1 h2 => ?_)
  have h1' : i < (tryS caps most stops).length := by simpa using h1
  obtain ⟨hs, hse, _⟩ := tryS_at (caps := caps) h0 hv h1'
  rw [List.getElem_map, hse]; rfl
theorem fxI_neg_of {p : Nat → Bool} {n : Nat} (h : ∀ j, j < n → p j = false) : fxI p n < 0 := by rw [fxI_none h]; decide
theorem withinF_in {loads caps : List Int} (h : withinF loads caps = true) {k : Nat} (hk : k < loads.length) : loads.getD k 0 ≤ caps.getD k 0 := by
  rw [withinF, List.all_eq_true] at h
  simpa using h k (List.mem_range.2 hk)
theorem fit_check {m : Nat} (hr : rightF caps = true) (hm : m ≤ caps.length) (hsl : stops.length ≤ 1000) (hw : wrongS stops < 0) (hf : fitS caps stops m = true) : CheckOk (planM caps stops m) := by
  simp only [fitS, Bool.and_eq_true, decide_eq_true_eq] at hf
  obtain ⟨hl, hwi⟩ := hf
  obtain ⟨hc1, hc2, hc0⟩ := rightF_pos hr
  have hv : ∀ x ∈ stops, 1 ≤ x.vol ∧ x.vol ≤ 10000 := fun x hx => (wrongS_stop hw x hx).2.2
  have h0 : (0 : Int) ≤ (m : Int) := by omega
  have hst := tryS_stops (caps := caps) h0 hv hl
  refine ⟨hr, by show (tryS caps m stops).length ≤ 1000; omega, by show wrongS ((tryS caps m stops).map stopOf) < 0; rw [hst]; exact hw, ?_, loadS_len .., loadS_len .., ?_, ?_⟩
  · refine fxI_neg_of (fun j hj => ?_)
    have hj' : j < (tryS caps m stops).length := hj
    obtain ⟨hs, hse, hg, hm0, hm1, hat, hgn⟩ := tryS_at (caps := caps) h0 hv hj'
    refine badSeat_no hj ?_ ?_ ?_
    · show ¬ min (tryS caps m stops)[j].fst (tryS caps m stops)[j].snd < 0
      rw [hse]; simp only [seatAt]; omega
    · show ¬ max (tryS caps m stops)[j].fst (tryS caps m stops)[j].snd ≥ (caps.length : Int)
      rw [hse]; simp only [seatAt]; omega
    · rcases Nat.eq_zero_or_pos j with h1 | h1
      · exact .inl h1
      · obtain ⟨i, rfl⟩ : ∃ i, j = i + 1 := ⟨j - 1, by omega⟩
        have hi' : i < (tryS caps m stops).length := by omega
        refine .inr ⟨by show i + 1 - 1 < (tryS caps m stops).length; omega, ?_⟩
        obtain ⟨hs2, hse2, hg2, hm02, hm12, hat2, hgn2⟩ := tryS_at (caps := caps) h0 hv hi'
        show (tryS caps m stops)[i + 1 - 1].snd < (tryS caps m stops)[i + 1].snd ∨ ((tryS caps m stops)[i + 1 - 1].snd = (tryS caps m stops)[i + 1].snd ∧ (tryS caps m stops)[i + 1 - 1].fst < (tryS caps m stops)[i + 1].fst)
        have e2 : (tryS caps m stops)[i + 1 - 1]'(by omega) = (tryS caps m stops)[i] := by congr 1
        rw [e2, hse, hse2]
        obtain ⟨a1, a2, a3, a4⟩ := adv_in (caps := caps) (most := (m : Int)) (v := stops[i + 1].vol) hg.ha
        rw [hgn2] at a2 a3 ⊢
        simp only [nxt, seatAt] at a2 a3 ⊢
        rcases a3 with a3 | ⟨b1, b2, b3⟩
        · right; rw [a3]; dsimp only; omega
        · left; omega
  · refine fxI_neg_of (fun j hj => ?_)
    simp only [badLoad, planM, loadF, Bool.or_eq_false_iff, decide_eq_false_iff_not, ne_eq, not_true_eq_false, not_false_eq_true, and_self]
  · refine fxI_neg_of (fun j hj => ?_)
    have hj' : j < caps.length := hj
    have h1 : (loadF caps (tryS caps m stops) (·.fst)).getD j 0 ≤ caps.getD j 0 := withinF_in hwi (by rw [loadF, loadS_len]; exact hj')
    have h2 : (loadS caps.length (·.snd) (tryS caps m stops) (tryS caps m stops).length).getD j 0 ≤ caps.getD j 0 := by
      have := l2ok (caps := caps) hc1 h0 hv _ (Nat.le_refl _) j hj'
      rcases Nat.lt_trichotomy j (gsAt caps m stops (tryS caps m stops).length).at_ with h3 | h3 | h3
      · exact this.1 h3
      · have := this.2.1 h3; omega
      · have hx := this.2.2 h3
        have := hc1 _ (List.getElem_mem hj')
        rw [hx, getDi hj']; omega
    rw [badFull, decide_eq_false_iff_not]
    show ¬ caps.getD j 0 < max ((loadS caps.length (·.fst) (tryS caps m stops) (tryS caps m stops).length).getD j 0) ((loadS caps.length (·.snd) (tryS caps m stops) (tryS caps m stops).length).getD j 0)
    simp only [loadF] at h1
    omega
theorem findM_fit (hc : ∀ c ∈ caps, 1 ≤ c) : ∀ {n m : Nat}, findM caps stops n = some m → m ≤ n ∧ fitS caps stops m = true
  | 0, m, h => by
    rw [findM] at h
    split at h
    · cases h; exact ⟨Nat.le_refl _, fit0 (by assumption) hc⟩
    · cases h
  | n + 1, m, h => by
    rw [findM] at h
    split at h
    · cases h; exact ⟨Nat.le_refl _, by assumption⟩
    · have := findM_fit hc h; exact ⟨by omega, this.2⟩
end
/-- What is known of a plan that Make has made. -/
structure MadeOk (caps : List Int) (stops : List StopR) (p : PlanR) : Prop where
  ck : CheckOk p
  caps : p.caps = caps
  st : p.seats.map stopOf = stops
theorem make_made {stops : List StopR} {caps : List Int} (h : (makeF stops caps).2 = 0) : MadeOk caps stops (makeF stops caps).1 ∧ stops.length ≤ 1000 ∧ wrongS stops < 0 ∧ rightF caps = true := by
  unfold makeF at h ⊢
  by_cases h1 : rightF caps = false
  · rw [if_pos h1] at h; simp at h
  rw [if_neg h1] at h ⊢
  by_cases h2 : 1000 < stops.length
  · rw [if_pos h2] at h; simp at h
  rw [if_neg h2] at h ⊢
  by_cases h3 : 0 ≤ wrongS stops
  · rw [if_pos h3] at h; simp at h
  rw [if_neg h3] at h ⊢
  have hr : rightF caps = true := by simpa using h1
  cases hm : findM caps stops (min stops.length caps.length) with
  | none => rw [hm] at h; simp at h
  | some m =>
    obtain ⟨hmn, hfit⟩ := findM_fit (rightF_pos hr).1 hm
    have hv : ∀ x ∈ stops, 1 ≤ x.vol ∧ x.vol ≤ 10000 := fun x hx => (wrongS_stop (by omega) x hx).2.2
    refine ⟨⟨fit_check hr (by omega) (by omega) (by omega) hfit, rfl, ?_⟩, by omega, by omega, hr⟩
    simp only [fitS, Bool.and_eq_true, decide_eq_true_eq] at hfit
    exact tryS_stops (by omega) hv hfit.1
end Go.Ab.S
namespace Go.Ab.S
open Go Go.Ab Go.Proofs
/-! ### a plan's seats by their stops -/
theorem CheckOk.nodup {p : PlanR} (h : CheckOk p) : (p.seats.map (·.stop)).Nodup := by
  have key : ∀ i, i ≤ p.seats.length → ((p.seats.take i).map (·.stop)).Nodup := fun i => by
    induction i with
    | zero => intro _; simp
    | succ i ih =>
      intro hi
      have hi' : i < (p.seats.map stopOf).length := by rw [List.length_map]; omega
      have h1 := fxI_neg (p := badStop (p.seats.map stopOf)) h.s i hi'
      have h2 : ¬ ((mget (seenM ((p.seats.map stopOf).map (·.id)) i) (p.seats.map stopOf)[i].id).isSome = true) := fun hh => by
        have := (badStop_iff hi').2 (.inl hh); rw [h1] at this; cases this
      rw [seenM_get _ _ _ (by simp; omega), decide_eq_true_eq] at h2
      rw [List.take_succ_eq_append_getElem (by omega), List.map_append, List.nodup_append]
      refine ⟨ih (by omega), by simp, fun a ha b hb e => h2 ?_⟩
      subst e
      simp only [List.map_cons, List.map_nil, List.mem_singleton] at hb
      have e1 : (p.seats.map stopOf)[i].id = p.seats[i].stop := by simp [stopOf]
      have e2 : ((p.seats.map stopOf).map (·.id)) = p.seats.map (·.stop) := by rw [List.map_map]; rfl
      rw [e1, e2, ← hb, ← List.map_take]; exact ha
  have := key p.seats.length (Nat.le_refl _)
  rwa [List.take_length] at this
theorem seatI_cases (p : PlanR) (k : Int) : (∃ i : Nat, ∃ h : i < p.seats.length, seatI p k = i ∧ p.seats[i].stop = k) ∨ (seatI p k = -1 ∧ ∀ x ∈ p.seats, x.stop ≠ k) := by
  unfold seatI fxI
  cases hf : (List.range p.seats.length).find? (fun i => decide ((p.seats.getD i s0R).stop = k)) with
  | none =>
    right
    refine ⟨rfl, fun x hx e => ?_⟩
    obtain ⟨i, hi, rfl⟩ := List.getElem_of_mem hx
    have := List.find?_eq_none.1 hf i (List.mem_range.2 hi)
    rw [getDg hi] at this
    simp [e] at this
  | some i =>
    left
    have h1 := List.find?_some hf
    have h2 := List.mem_range.1 (List.mem_of_find?_eq_some hf)
    rw [getDg h2] at h1
    exact ⟨i, h2, rfl, by simpa using h1⟩
theorem seatI_bd (p : PlanR) (k : Int) : -1 ≤ seatI p k ∧ seatI p k < p.seats.length := by
  rcases seatI_cases p k with ⟨i, h, e, _⟩ | ⟨e, _⟩
  · omega
  · omega
theorem stOf_seat {p : PlanR} (h : CheckOk p) (k : Int) : stOf p k = if 0 ≤ seatI p k then some (p.seats.getD (seatI p k).toNat s0R) else none := by
  rcases seatI_cases p k with ⟨i, hi, e, hs⟩ | ⟨e, hn⟩
  · rw [if_pos (by omega), e, Int.toNat_natCast, getDg hi, stOf, ← hs]
    exact mkM_uniq h.nodup (List.getElem_mem hi)
  · rw [if_neg (by omega), stOf]
    exact mkM_none hn
theorem itmOf_eq {l : List ItemR} (hd : (l.map (·.id)).Nodup) {y : ItemR} (hy : y ∈ l) : itmOf l y.id = y := by
  rw [itmOf, mkM_uniq hd hy]; rfl
/-- The stackers of an item in both passes; -1: none. -/
def aF (p : PlanR) (y : ItemR) : Int := if 0 ≤ seatI p y.stop ∧ y.rd1 = true then (p.seats.getD (seatI p y.stop).toNat s0R).fst else -1
def bF (p : PlanR) (y : ItemR) : Int := if 0 ≤ seatI p y.stop ∧ y.rd2 = true then (p.seats.getD (seatI p y.stop).toNat s0R).snd else -1
section
variable {p : PlanR} {l : List ItemR} {sw : Int}
theorem feed1_eq (h : CheckOk p) (hd : (l.map (·.id)).Nodup) {y : ItemR} (hy : y ∈ l) : feed1 p l y.id = ⟨y.id, aF p y⟩ := by
  simp only [feed1, itmOf_eq hd hy, aF, stOf_seat h]
  by_cases h1 : 0 ≤ seatI p y.stop
  · simp [h1]
  · simp [h1]
theorem firstL_eq (h : CheckOk p) (hd : (l.map (·.id)).Nodup) : firstL p l = l.map fun y => ⟨y.id, aF p y⟩ := by
  rw [firstL, List.map_map]
  exact List.map_congr_left fun y hy => feed1_eq h hd hy
theorem feed2_eq (h : CheckOk p) (hd : (l.map (·.id)).Nodup) {y : ItemR} (hy : y ∈ l) (hs : 0 ≤ seatI p y.stop) : feed2 p l y.id = ⟨y.id, bF p y⟩ := by
  simp only [feed2, itmOf_eq hd hy, bF, stOf_seat h, if_pos hs]
  simp [hs]
theorem firstL_ids (h : CheckOk p) (hd : (l.map (·.id)).Nodup) : (firstL p l).map (·.item) = l.map (·.id) := by
  rw [firstL_eq h hd, List.map_map]; rfl
/-- What is in a stacker was fed to it. -/
theorem rows_fed {cs : List Int} {L : List FeedR} (hpos : ∀ c ∈ cs, 1 ≤ c) (hin : ∀ x ∈ L, x.stk < cs.length) (h0 : 0 ≤ sw) : ∀ i, i ≤ L.length → ∀ k, k < cs.length → ∀ a ∈ (playS cs sw L i).rows.getD k [], ∃ x ∈ L.take i, x.item = a ∧ x.stk = k
  | 0, _, k, hk, a, ha => by
    have : (playS cs sw L 0).rows.getD k [] = [] := by simp only [playS, List.take_zero, List.foldl_nil, newM, getD_repl]
    rw [this] at ha; cases ha
  | i + 1, h, k, hk, a, ha => by
    have hi : i < L.length := by omega
    have ih := rows_fed hpos hin h0 i (by omega) k hk
    have hv := playS_inv hpos h0 hin i (by omega)
    have hr := hv.rows
    have htk : L.take (i + 1) = L.take i ++ [L[i]] := List.take_succ_eq_append_getElem hi
    have old : ∀ a ∈ (playS cs sw L i).rows.getD k [], ∃ x ∈ L.take (i + 1), x.item = a ∧ x.stk = k := fun a ha => by
      obtain ⟨x, hx, e⟩ := ih a ha
      exact ⟨x, by rw [htk]; exact List.mem_append_left _ hx, e⟩
    have new : ∀ (t : MS) (e : EvR) (j : Nat), L[i].stk = j → j < cs.length → t.rows = (playS cs sw L i).rows → a ∈ (noteM (stackM t j L[i].item) e).rows.getD k [] → ∃ x ∈ L.take (i + 1), x.item = a ∧ x.stk = k := fun t e j hj hjc ht ha => by
      simp only [noteM, stackM, ht] at ha
      rw [gset (by omega)] at ha
      split at ha
      · rename_i hkj
        subst hkj
        rcases List.mem_append.1 ha with ha | ha
        · exact old a ha
        · simp at ha
          exact ⟨L[i], by rw [htk]; exact List.mem_append_right _ (List.mem_singleton.2 rfl), ha.symm, hj⟩
      · exact old a ha
    rw [playS_succ hi] at ha
    revert ha
    refine stepM_cases cs (playS cs sw L i) L[i] (fun t => a ∈ t.rows.getD k [] → _) hv.load (hin _ (List.getElem_mem hi)) hpos (fun _ => old a) (fun j hj hjc _ => new _ _ j hj hjc rfl) (fun j hj hjc _ _ => new _ _ j hj hjc rfl) (fun j hj hjc _ _ => old a)
theorem left_fed (h : CheckOk p) (hd : (l.map (·.id)).Nodup) (h0 : 0 ≤ sw) : ∀ a ∈ leftL p sw l, ∃ y ∈ l, y.id = a ∧ 0 ≤ seatI p y.stop ∧ y.rd1 = true := by
  intro a ha
  obtain ⟨r, hr, har⟩ := List.mem_flatten.1 (show a ∈ (twoA p sw l).rows.flatten from ha)
  obtain ⟨k, hk, rfl⟩ := List.getElem_of_mem hr
  have hfi := firstL_in h l
  have hrl := (play_flat_le (sw := sw) h0 h.r hfi).2
  have hk' : k < p.caps.length := by rw [← hrl]; exact hk
  have := rows_fed (sw := sw) (rightF_pos h.r).1 (fun x hx => (hfi x hx).2) h0 _ (Nat.le_refl _) k hk' a (by rw [playS_all]; show a ∈ (twoA p sw l).rows.getD k []; rw [getDg hk]; exact har)
  obtain ⟨x, hx, e1, e2⟩ := this
  rw [List.take_length, firstL_eq h hd] at hx
  obtain ⟨y, hy, rfl⟩ := List.mem_map.1 hx
  refine ⟨y, hy, e1, ?_⟩
  simp only [aF] at e2
  split at e2
  · assumption
  · omega
theorem secondL_eq (h : CheckOk p) (hd : (l.map (·.id)).Nodup) (h0 : 0 ≤ sw) : secondL p sw l = (leftL p sw l).map fun a => ⟨a, bF p (itmOf l a)⟩ := by
  rw [secondL]
  refine List.map_congr_left fun a ha => ?_
  obtain ⟨y, hy, rfl, hs, _⟩ := left_fed h hd h0 a ha
  rw [feed2_eq h hd hy hs, itmOf_eq hd hy]
theorem left_perm (h : CheckOk p) (hd : (l.map (·.id)).Nodup) (h0 : 0 ≤ sw) : (leftL p sw l ++ (twoA p sw l).over ++ (twoA p sw l).rej).Perm (l.map (·.id)) := by
  have := playS_all_perm (sw := sw) (rightF_pos h.r).1 h0 (fun x hx => (firstL_in h l x hx).2) _ (Nat.le_refl _)
  rw [playS_all, List.take_length, firstL_ids h hd] at this
  exact this
theorem left_nodup (h : CheckOk p) (hd : (l.map (·.id)).Nodup) (h0 : 0 ≤ sw) : (leftL p sw l).Nodup := by
  have := (left_perm h hd h0).nodup_iff.2 hd
  rw [List.append_assoc, List.nodup_append] at this
  exact this.1
theorem left_sub (h : CheckOk p) (hd : (l.map (·.id)).Nodup) (h0 : 0 ≤ sw) {a : Int} (ha : a ∈ leftL p sw l) : a ∈ l.map (·.id) :=
  (left_perm h hd h0).mem_iff.1 (by simp [ha])
theorem left_len (h : CheckOk p) (hd : (l.map (·.id)).Nodup) (h0 : 0 ≤ sw) : (leftL p sw l).length ≤ l.length := by
  have := (left_perm h hd h0).length_eq
  simp at this; omega
theorem secondL_ids : (secondL p sw l).map (·.item) = leftL p sw l := by
  rw [secondL, List.map_map]
  exact List.map_id'' (fun a => rfl) _
theorem first_wrong (h : CheckOk p) (hd : (l.map (·.id)).Nodup) (hl : l.length ≤ 2000) (hi : ∀ a ∈ l.map (·.id), 1 ≤ a ∧ a ≤ 999999) : wrongF p.caps.length (firstL p l) = 0 :=
  wrongF_of (by rw [firstL_len]; exact hl) (firstL_in h l) (by rw [firstL_ids h hd]; exact hd) (by rw [firstL_ids h hd]; exact hi)
theorem second_wrong (h : CheckOk p) (hd : (l.map (·.id)).Nodup) (h0 : 0 ≤ sw) (hl : l.length ≤ 2000) (hi : ∀ a ∈ l.map (·.id), 1 ≤ a ∧ a ≤ 999999) : wrongF p.caps.length (secondL p sw l) = 0 :=
  wrongF_of (by have := left_len (sw := sw) h hd h0; simp only [secondL, List.length_map]; omega) (secondL_in h sw l) (by rw [secondL_ids]; exact left_nodup h hd h0) (by rw [secondL_ids]; exact fun a ha => hi a (left_sub h hd h0 ha))
theorem two_good (h : CheckOk p) (h0 : 0 ≤ sw) (h1 : sw ≤ 1000) (hl : l.length ≤ 2000) (hd : (l.map (·.id)).Nodup) (hi : ∀ a ∈ l.map (·.id), 1 ≤ a ∧ a ≤ 999999) : twoF p sw l = (⟨twoA p sw l, twoB p sw l, (twoB p sw l).rows.flatten⟩, 0) := by
  rw [twoF, if_neg (by rw [check_zero h]; simp), if_neg (by omega), if_neg (by omega), if_pos (diffF_of hd hi)]
end
/-! ### of the items that built makes -/
theorem itemsF_ids (x : CaseR) : (itemsF x).map (·.id) = (List.range (min x.picks.length 200)).map fun i : Nat => 1 + 7 * (i : Int) := by
  rw [itemsF, List.map_map]; rfl
theorem itemsF_nodup (x : CaseR) : ((itemsF x).map (·.id)).Nodup := by
  rw [itemsF_ids]
  have : ∀ n, ((List.range n).map fun i : Nat => 1 + 7 * (i : Int)).Nodup := fun n => by
    induction n with
    | zero => simp
    | succ n ih =>
      rw [List.range_succ, List.map_append, List.nodup_append]
      refine ⟨ih, by simp, fun a ha b hb e => ?_⟩
      obtain ⟨i, hi, rfl⟩ := List.mem_map.1 ha
      have := List.mem_range.1 hi
      simp at hb
      omega
  exact this _
theorem itemsF_in (x : CaseR) : ∀ a ∈ (itemsF x).map (·.id), 1 ≤ a ∧ a ≤ 999999 := by
  intro a ha
  rw [itemsF_ids] at ha
  obtain ⟨i, hi, rfl⟩ := List.mem_map.1 ha
  have := List.mem_range.1 hi
  omega
theorem itemsF_len (x : CaseR) : (itemsF x).length = min x.picks.length 200 := by simp [itemsF]
end Go.Ab.S
