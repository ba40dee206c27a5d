/- What functions of this program compute, and the laws of what they compute, under the bounds on lengths that each contract states. -/
import Derived.Test.YtghoaglolhdoeaaDoorD31
import Derived.Test.YtghoaglolhdoeaaDoorD43
set_option linter.unusedSimpArgs false
set_option linter.unusedVariables false
namespace Go.Ab.D
open Go Go.Ab Go.Proofs
structure ReferR where
  towns : List TownR
  streets : List StreetR
  ranges : List RangeR
  points : List PtR
structure ReferR.ok (r : ReferR) : Prop where
  h1 : r.towns.length * 72 ≤ 140737488351232
  h2 : r.streets.length * 88 ≤ 140737488351232
  h3 : r.ranges.length * 64 ≤ 140737488351232
  h4 : r.points.length * 80 ≤ 140737488351232
  t1 : ∀ t ∈ r.towns, t.texts.length * 16 ≤ 140737488351232
  t2 : ∀ t ∈ r.streets, t.texts.length * 16 ≤ 140737488351232
def refO (r : ReferR) : AV := .agg [.sl 5 false (r.towns.map townAV), .sl 6 false (r.streets.map streetAV), .sl 7 false (r.ranges.map rangeAV), .sl 8 false (r.points.map ptAV)]
def lT (r : ReferR) : AV := .slb 5 r.towns.length (r.towns.map townLV ++ mks mkTown 12)
def lS (r : ReferR) : AV := .slb 6 r.streets.length (r.streets.map streetLV ++ mks mkStreet 12)
def lR (r : ReferR) : AV := .slb 7 r.ranges.length ((r.ranges ++ mks mkRange 12).map rangeAV)
def lP (r : ReferR) : AV := .slb 8 r.points.length ((r.points ++ mks mkPt 12).map ptAV)
def refL (r : ReferR) : AV := .agg [lT r, lS r, lR r, lP r]
theorem cel_slb {z n : Nat} {es : List AV} (h : ∀ x ∈ es, Pur x) : Cel (.slb z n es) := ⟨.slb h, fun _ => rfl⟩
theorem cT (r : ReferR) : Cel (lT r) := cel_slb (pu_app (pu_townL _) (pu_townM _))
theorem cS (r : ReferR) : Cel (lS r) := cel_slb (pu_app (pu_streetL _) (pu_streetM _))
theorem cR (r : ReferR) : Cel (lR r) := cel_slb (pu_rng _)
theorem cP (r : ReferR) : Cel (lP r) := cel_slb (pu_ptr _)
theorem pur_ag4 {a b c d : AV} (h1 : Cel a) (h2 : Cel b) (h3 : Cel c) (h4 : Cel d) : Pur (.agg [a, b, c, d]) := by simp [h1.1, h2.1, h3.1, h4.1]
theorem good_ag4 {a b c d : AV} (h1 : Cel a) (h2 : Cel b) (h3 : Cel c) (h4 : Cel d) (H : Heap) : (AV.agg [a, b, c, d]).goodPart H = true := by
  simp only [AV.goodPart, List.all_cons, List.all_nil, h1.2, h2.2, h3.2, h4.2, Bool.and_true]
theorem pur_refO (r : ReferR) : Pur (refO r) := pur_ag4 (cel_sl (pu_townA _)) (cel_sl (pu_streetA _)) (cel_sl (pu_rng _)) (cel_sl (pu_ptr _))
theorem good_refO (r : ReferR) (H : Heap) : (refO r).goodPart H = true := good_ag4 (cel_sl (pu_townA _)) (cel_sl (pu_streetA _)) (cel_sl (pu_rng _)) (cel_sl (pu_ptr _)) H
theorem pur_refL (r : ReferR) : Pur (refL r) := pur_ag4 (cT r) (cS r) (cR r) (cP r)
theorem good_refL (r : ReferR) (H : Heap) : (refL r).goodPart H = true := good_ag4 (cT r) (cS r) (cR r) (cP r) H
theorem take_marks {α : Type} (f : α → AV) (l m : List α) : l.map f = ((l ++ m).map f).take l.length := by rw [List.map_append, List.take_left' (by simp)]

noncomputable def r22_0 : Array Oper := opsAt Tryd.f22 [0]
theorem r22_0_ok : dstOk 33 r22_0.toList = true ∧ r22_0.toList.all (fun o => noDefer o.op) = true := by decide +kernel
noncomputable def r22_1 : Array Oper := opsAt Tryd.f22 [1, 0]
theorem r22_1_ok : dstOk 33 r22_1.toList = true ∧ r22_1.toList.all (fun o => noDefer o.op) = true := by decide +kernel
noncomputable def c22 : Code := (.seq (.region 0 r22_0 false) (.seq (.region 1 r22_1 false) .ret))
theorem body22 : Tryd.f22.body = some c22 := by kernel_rfl
theorem few_ok (r : ReferR) (hr : r.ok) : PureCall Tryd.prog GL 22 [refO r, nilS, nilS] (.raw (.bool (decide ((r.towns.length : Int) + (r.streets.length : Int) + (r.ranges.length : Int) + (r.points.length : Int) ≤ 300)))) := by
  refine pure_of_body Tryd.func22 body22 (Nat.le_of_ble_eq_true rfl) ((by intro x hx; simp only [List.mem_cons, List.not_mem_nil, or_false] at hx; rcases hx with rfl | rfl | rfl; exact pur_refO _; exact cel_nilT.1; exact cel_nilT.1)) (by simp) ?_
  refine w_keep [(0, refO r), (1, nilS), (2, nilS)] ⟨rfl, rfl, rfl, trivial⟩ ?_
  unfold c22
  obtain ⟨q1, q2, q3, q4, q5, q6⟩ := hr
  refine awp_seq ?_
  refine w_reg (l := r22_0.toList) rfl r22_0_ok ?_
  refine a_op rfl (o_box (N := 0) rfl (by first | exact good_refO _ _ | exact good_refL _ _ | rfl | exact (cT _).2 _ | exact (cS _).2 _ | exact (cR _).2 _ | exact (cP _).2 _ | exact good_ag4 (cT _) (cel_sl (pu_streetA _)) (cel_sl (pu_rng _)) (cel_sl (pu_ptr _)) _) rfl rfl) ?_
  refine a_op rfl (o_as rfl) ?_
  refine a_nil ?_
  refine tq_n ?_
  refine awp_seq ?_
  refine w_reg (l := r22_1.toList) rfl r22_1_ok ?_
  refine a_op rfl ((by first | exact o_fa tf30_0 rfl rfl | exact o_fap tf30_0 rfl rfl)) ?_
  refine a_op rfl ((by first | exact o_ld tg25 rfl rfl | exact o_ldp tg25 rfl rfl rfl rfl)) ?_
  refine a_op rfl (o_len rfl rfl (by first | exact List.length_map .. | rfl) tl25) ?_
  refine a_op rfl ((by first | exact o_fa tf30_1 rfl rfl | exact o_fap tf30_1 rfl rfl)) ?_
  refine a_op rfl ((by first | exact o_ld tg26 rfl rfl | exact o_ldp tg26 rfl rfl rfl rfl)) ?_
  refine a_op rfl (o_len rfl rfl (by first | exact List.length_map .. | rfl) tl26) ?_
  refine a_op rfl (o_add rfl rfl (by simp only [klo, khi]; omega)) ?_
  refine a_op rfl ((by first | exact o_fa tf30_2 rfl rfl | exact o_fap tf30_2 rfl rfl)) ?_
  refine a_op rfl ((by first | exact o_ld tg27 rfl rfl | exact o_ldp tg27 rfl rfl rfl rfl)) ?_
  refine a_op rfl (o_len rfl rfl (by first | exact List.length_map .. | rfl) tl27) ?_
  refine a_op rfl (o_add rfl rfl (by simp only [klo, khi]; omega)) ?_
  refine a_op rfl ((by first | exact o_fa tf30_3 rfl rfl | exact o_fap tf30_3 rfl rfl)) ?_
  refine a_op rfl ((by first | exact o_ld tg28 rfl rfl | exact o_ldp tg28 rfl rfl rfl rfl)) ?_
  refine a_op rfl (o_len rfl rfl (by first | exact List.length_map .. | rfl) tl28) ?_
  refine a_op rfl (o_add rfl rfl (by simp only [klo, khi]; omega)) ?_
  refine a_if rfl (o_le rfl rfl) (fun h1 => ?_) (fun h2 => ?_)
  · refine a_op rfl (o_mv rfl) ?_
    refine a_op rfl (o_mv rfl) ?_
    refine a_op rfl (o_len rfl rfl (by first | exact List.length_map .. | rfl) tl32) ?_
    refine a_if rfl (o_le rfl rfl) (fun h3 => ?_) (fun h4 => ?_)
    · refine a_op rfl (o_pkt rfl rfl) ?_
      refine a_op rfl (o_mv rfl) ?_
      refine a_op rfl (o_mv rfl) ?_
      refine a_op rfl (o_len rfl rfl (by first | exact List.length_map .. | rfl) tl34) ?_
      refine a_op rfl (o_le rfl rfl) ?_
      refine a_op rfl (o_pkt rfl rfl) ?_
      refine a_op rfl (o_as rfl) ?_
      refine a_nil ?_
      refine tq_n ?_
      refine awp_ret ?_
      refine r_one rfl ⟨rfl, trivial⟩ ?_
      exact rs_dec (by simp only [decide_eq_true_eq, Bool.false_eq_true, false_iff, true_iff]; omega)
    omega
  refine a_op rfl (o_mv rfl) ?_
  refine a_off rfl ?_
  refine a_off rfl ?_
  refine a_off rfl ?_
  refine a_op rfl (o_pkf rfl rfl) ?_
  refine a_op rfl (o_mv rfl) ?_
  refine a_off rfl ?_
  refine a_off rfl ?_
  refine a_off rfl ?_
  refine a_op rfl (o_pkf rfl rfl) ?_
  refine a_op rfl (o_as rfl) ?_
  refine a_nil ?_
  refine tq_n ?_
  refine awp_ret ?_
  refine r_one rfl ⟨rfl, trivial⟩ ?_
  exact rs_dec (by simp only [decide_eq_true_eq, Bool.false_eq_true, false_iff, true_iff]; omega)
noncomputable def r23_0 : Array Oper := opsAt Tryd.f23 [0]
theorem r23_0_ok : dstOk 20 r23_0.toList = true ∧ r23_0.toList.all (fun o => noDefer o.op) = true := by decide +kernel
noncomputable def r23_1 : Array Oper := opsAt Tryd.f23 [1, 0]
theorem r23_1_ok : dstOk 20 r23_1.toList = true ∧ r23_1.toList.all (fun o => noDefer o.op) = true := by decide +kernel
noncomputable def r23_2 : Array Oper := opsAt Tryd.f23 [1, 1, 0]
theorem r23_2_ok : dstOk 20 r23_2.toList = true ∧ r23_2.toList.all (fun o => noDefer o.op) = true := by decide +kernel
noncomputable def r23_3 : Array Oper := opsAt Tryd.f23 [1, 1, 1, 0]
theorem r23_3_ok : dstOk 20 r23_3.toList = true ∧ r23_3.toList.all (fun o => noDefer o.op) = true := by decide +kernel
noncomputable def r23_4 : Array Oper := opsAt Tryd.f23 [1, 1, 1, 1, 0]
theorem r23_4_ok : dstOk 20 r23_4.toList = true ∧ r23_4.toList.all (fun o => noDefer o.op) = true := by decide +kernel
noncomputable def r23_5 : Array Oper := opsAt Tryd.f23 [1, 1, 1, 1, 1, 0]
theorem r23_5_ok : dstOk 20 r23_5.toList = true ∧ r23_5.toList.all (fun o => noDefer o.op) = true := by decide +kernel
noncomputable def c23 : Code := (.seq (.region 0 r23_0 false) (.seq (.region 1 r23_1 false) (.seq (.region 2 r23_2 false) (.seq (.region 3 r23_3 false) (.seq (.region 4 r23_4 false) (.seq (.region 5 r23_5 false) .ret))))))
theorem body23 : Tryd.f23.body = some c23 := by kernel_rfl
theorem lentRefer_ok (r : ReferR) (hr : r.ok) : PureCall Tryd.prog GL 23 [refO r] (refL r) := by
  refine pure_of_body Tryd.func23 body23 (Nat.le_of_ble_eq_true rfl) (pur1 (pur_refO _)) (pur_refL _) ?_
  refine w_keep [(0, refO r)] ⟨rfl, trivial⟩ ?_
  unfold c23
  refine awp_seq ?_
  refine w_reg (l := r23_0.toList) rfl r23_0_ok ?_
  refine a_op rfl (o_box (N := 0) rfl (by first | exact good_refO _ _ | exact good_refL _ _ | rfl | exact (cT _).2 _ | exact (cS _).2 _ | exact (cR _).2 _ | exact (cP _).2 _ | exact good_ag4 (cT _) (cel_sl (pu_streetA _)) (cel_sl (pu_rng _)) (cel_sl (pu_ptr _)) _) rfl rfl) ?_
  refine a_op rfl (o_al (N := 1) tz30 rfl rfl rfl) ?_
  refine a_nil ?_
  refine tq_n ?_
  refine awp_seq ?_
  refine w_reg (l := r23_1.toList) rfl r23_1_ok ?_
  refine a_op rfl ((by first | exact o_fa tf30_0 rfl rfl | exact o_fap tf30_0 rfl rfl)) ?_
  refine a_op rfl ((by first | exact o_ld tg25 rfl rfl | exact o_ldp tg25 rfl rfl rfl rfl)) ?_
  refine a_pure rfl rfl rfl cb41 (lentTowns_ok _ _ hr.h1 hr.t1) ?_
  refine a_op rfl ((by first | exact o_fa tf30_0 rfl rfl | exact o_fap tf30_0 rfl rfl)) ?_
  refine a_op0 rfl (o_st (N := 0) tn25 rfl rfl (by first | exact good_refO _ _ | exact good_refL _ _ | rfl | exact (cT _).2 _ | exact (cS _).2 _ | exact (cR _).2 _ | exact (cP _).2 _ | exact good_ag4 (cT _) (cel_sl (pu_streetA _)) (cel_sl (pu_rng _)) (cel_sl (pu_ptr _)) _) rfl rfl) ?_
  refine a_nil ?_
  refine tq_n ?_
  refine awp_seq ?_
  refine w_reg (l := r23_2.toList) rfl r23_2_ok ?_
  refine a_op rfl ((by first | exact o_fa tf30_1 rfl rfl | exact o_fap tf30_1 rfl rfl)) ?_
  refine a_op rfl ((by first | exact o_ld tg26 rfl rfl | exact o_ldp tg26 rfl rfl rfl rfl)) ?_
  refine a_pure rfl rfl rfl cb42 (lentStreets_ok _ _ hr.h2 hr.t2) ?_
  refine a_op rfl ((by first | exact o_fa tf30_1 rfl rfl | exact o_fap tf30_1 rfl rfl)) ?_
  refine a_op0 rfl (o_st (N := 0) tn26 rfl rfl (by first | exact good_refO _ _ | exact good_refL _ _ | rfl | exact (cT _).2 _ | exact (cS _).2 _ | exact (cR _).2 _ | exact (cP _).2 _ | exact good_ag4 (cT _) (cel_sl (pu_streetA _)) (cel_sl (pu_rng _)) (cel_sl (pu_ptr _)) _) rfl rfl) ?_
  refine a_nil ?_
  refine tq_n ?_
  refine awp_seq ?_
  refine w_reg (l := r23_3.toList) rfl r23_3_ok ?_
  refine a_op rfl ((by first | exact o_fa tf30_2 rfl rfl | exact o_fap tf30_2 rfl rfl)) ?_
  refine a_op rfl ((by first | exact o_ld tg27 rfl rfl | exact o_ldp tg27 rfl rfl rfl rfl)) ?_
  refine a_pure rfl rfl rfl cb43 (lentRanges_ok _ _ hr.h3) ?_
  refine a_op rfl ((by first | exact o_fa tf30_2 rfl rfl | exact o_fap tf30_2 rfl rfl)) ?_
  refine a_op0 rfl (o_st (N := 0) tn27 rfl rfl (by first | exact good_refO _ _ | exact good_refL _ _ | rfl | exact (cT _).2 _ | exact (cS _).2 _ | exact (cR _).2 _ | exact (cP _).2 _ | exact good_ag4 (cT _) (cel_sl (pu_streetA _)) (cel_sl (pu_rng _)) (cel_sl (pu_ptr _)) _) rfl rfl) ?_
  refine a_nil ?_
  refine tq_n ?_
  refine awp_seq ?_
  refine w_reg (l := r23_4.toList) rfl r23_4_ok ?_
  refine a_op rfl ((by first | exact o_fa tf30_3 rfl rfl | exact o_fap tf30_3 rfl rfl)) ?_
  refine a_op rfl ((by first | exact o_ld tg28 rfl rfl | exact o_ldp tg28 rfl rfl rfl rfl)) ?_
  refine a_pure rfl rfl rfl cb44 (lentPoints_ok _ _ hr.h4) ?_
  refine a_op rfl ((by first | exact o_fa tf30_3 rfl rfl | exact o_fap tf30_3 rfl rfl)) ?_
  refine a_op0 rfl (o_st (N := 0) tn28 rfl rfl (by first | exact good_refO _ _ | exact good_refL _ _ | rfl | exact (cT _).2 _ | exact (cS _).2 _ | exact (cR _).2 _ | exact (cP _).2 _ | exact good_ag4 (cT _) (cel_sl (pu_streetA _)) (cel_sl (pu_rng _)) (cel_sl (pu_ptr _)) _) rfl rfl) ?_
  refine a_nil ?_
  refine tq_n ?_
  refine awp_seq ?_
  refine w_reg (l := r23_5.toList) rfl r23_5_ok ?_
  refine a_op rfl ((by first | exact o_ldg tg30 tn30 rfl rfl | exact o_ldpg tg30 tn30 rfl rfl rfl rfl)) ?_
  refine a_op0 rfl (o_st (N := 3) tn30 rfl rfl (by first | exact good_refO _ _ | exact good_refL _ _ | rfl | exact (cT _).2 _ | exact (cS _).2 _ | exact (cR _).2 _ | exact (cP _).2 _ | exact good_ag4 (cT _) (cel_sl (pu_streetA _)) (cel_sl (pu_rng _)) (cel_sl (pu_ptr _)) _) rfl rfl) ?_
  refine a_nil ?_
  refine tq_n ?_
  refine awp_ret ?_
  refine r_one rfl ⟨c_ag tg30 tn30 rfl rfl, trivial⟩ ?_
  exact rs_pur (pur_refL _) rfl
noncomputable def r49_0 : Array Oper := opsAt Tryd.f49 [0]
theorem r49_0_ok : dstOk 31 r49_0.toList = true ∧ r49_0.toList.all (fun o => noDefer o.op) = true := by decide +kernel
noncomputable def r49_1 : Array Oper := opsAt Tryd.f49 [1, 0]
theorem r49_1_ok : dstOk 31 r49_1.toList = true ∧ r49_1.toList.all (fun o => noDefer o.op) = true := by decide +kernel
noncomputable def c49 : Code := (.seq (.region 0 r49_0 false) (.seq (.region 1 r49_1 false) .ret))
theorem body49 : Tryd.f49.body = some c49 := by kernel_rfl
theorem sameRefer_ok (r : ReferR) (hr : r.ok) : PureCall Tryd.prog GL 49 [refL r, refO r] (.raw (.bool true)) := by
  refine pure_of_body Tryd.func49 body49 (Nat.le_of_ble_eq_true rfl) (pur2 (pur_refL _) (pur_refO _)) (by simp) ?_
  refine w_keep [(0, refL r), (1, refO r)] ⟨rfl, rfl, trivial⟩ ?_
  unfold c49
  refine awp_seq ?_
  refine w_reg (l := r49_0.toList) rfl r49_0_ok ?_
  refine a_op rfl (o_box (N := 0) rfl (by first | exact good_refO _ _ | exact good_refL _ _ | rfl | exact (cT _).2 _ | exact (cS _).2 _ | exact (cR _).2 _ | exact (cP _).2 _ | exact good_ag4 (cT _) (cel_sl (pu_streetA _)) (cel_sl (pu_rng _)) (cel_sl (pu_ptr _)) _) rfl rfl) ?_
  refine a_op rfl (o_box (N := 1) rfl (by first | exact good_refO _ _ | exact good_refL _ _ | rfl | exact (cT _).2 _ | exact (cS _).2 _ | exact (cR _).2 _ | exact (cP _).2 _ | exact good_ag4 (cT _) (cel_sl (pu_streetA _)) (cel_sl (pu_rng _)) (cel_sl (pu_ptr _)) _) rfl rfl) ?_
  refine a_op rfl (o_as rfl) ?_
  refine a_nil ?_
  refine tq_n ?_
  refine awp_seq ?_
  refine w_reg (l := r49_1.toList) rfl r49_1_ok ?_
  refine a_op rfl ((by first | exact o_fa tf30_0 rfl rfl | exact o_fap tf30_0 rfl rfl)) ?_
  refine a_op rfl ((by first | exact o_ld tg25 rfl rfl | exact o_ldp tg25 rfl rfl rfl rfl)) ?_
  refine a_op rfl ((by first | exact o_fa tf30_0 rfl rfl | exact o_fap tf30_0 rfl rfl)) ?_
  refine a_op rfl ((by first | exact o_ld tg25 rfl rfl | exact o_ldp tg25 rfl rfl rfl rfl)) ?_
  refine a_pureb rfl rfl rfl cb77 (sameTowns_ok _ _ hr.h1 hr.t1) (fun h1 => ?_) (fun h2 => ?_)
  · refine a_op rfl (o_mv rfl) ?_
    refine a_op rfl ((by first | exact o_fa tf30_1 rfl rfl | exact o_fap tf30_1 rfl rfl)) ?_
    refine a_op rfl ((by first | exact o_ld tg26 rfl rfl | exact o_ldp tg26 rfl rfl rfl rfl)) ?_
    refine a_op rfl ((by first | exact o_fa tf30_1 rfl rfl | exact o_fap tf30_1 rfl rfl)) ?_
    refine a_op rfl ((by first | exact o_ld tg26 rfl rfl | exact o_ldp tg26 rfl rfl rfl rfl)) ?_
    refine a_pureb rfl rfl rfl cb78 (sameStreets_ok _ _ hr.h2 hr.t2) (fun h3 => ?_) (fun h4 => ?_)
    · refine a_op rfl (o_pkt rfl rfl) ?_
      refine a_op rfl (o_mv rfl) ?_
      refine a_op rfl ((by first | exact o_fa tf30_2 rfl rfl | exact o_fap tf30_2 rfl rfl)) ?_
      refine a_op rfl ((by first | exact o_ld tg27 rfl rfl | exact o_ldp tg27 rfl rfl rfl rfl)) ?_
      refine a_op rfl ((by first | exact o_fa tf30_2 rfl rfl | exact o_fap tf30_2 rfl rfl)) ?_
      refine a_op rfl ((by first | exact o_ld tg27 rfl rfl | exact o_ldp tg27 rfl rfl rfl rfl)) ?_
      refine a_pureb rfl rfl rfl cb79 (sameRanges_ok _ _ hr.h3) (fun h5 => ?_) (fun h6 => ?_)
      · refine a_op rfl (o_pkt rfl rfl) ?_
        refine a_op rfl (o_mv rfl) ?_
        refine a_op rfl ((by first | exact o_fa tf30_3 rfl rfl | exact o_fap tf30_3 rfl rfl)) ?_
        refine a_op rfl ((by first | exact o_ld tg28 rfl rfl | exact o_ldp tg28 rfl rfl rfl rfl)) ?_
        refine a_op rfl ((by first | exact o_fa tf30_3 rfl rfl | exact o_fap tf30_3 rfl rfl)) ?_
        refine a_op rfl ((by first | exact o_ld tg28 rfl rfl | exact o_ldp tg28 rfl rfl rfl rfl)) ?_
        refine a_pure rfl rfl rfl cb80 (samePoints_ok _ _ hr.h4) ?_
        refine a_op rfl (o_pkt rfl rfl) ?_
        refine a_op rfl (o_as rfl) ?_
        refine a_nil ?_
        refine tq_n ?_
        refine awp_ret ?_
        refine r_one rfl ⟨rfl, trivial⟩ ?_
        exact rs_pur (by simp) rfl
      cases h6
    cases h4
  cases h2
noncomputable def r27_0 : Array Oper := opsAt Tryd.f27 [0]
theorem r27_0_ok : dstOk 36 r27_0.toList = true ∧ r27_0.toList.all (fun o => noDefer o.op) = true := by decide +kernel
noncomputable def r27_1 : Array Oper := opsAt Tryd.f27 [1, 0]
theorem r27_1_ok : dstOk 36 r27_1.toList = true ∧ r27_1.toList.all (fun o => noDefer o.op) = true := by decide +kernel
noncomputable def c27 : Code := (.seq (.region 0 r27_0 false) (.seq (.region 1 r27_1 false) .ret))
theorem body27 : Tryd.f27.body = some c27 := by kernel_rfl
theorem keptRefer_ok (r : ReferR) (hr : r.ok) : PureCall Tryd.prog GL 27 [refL r, refO r] (.raw (.bool true)) := by
  refine pure_of_body Tryd.func27 body27 (Nat.le_of_ble_eq_true rfl) (pur2 (pur_refL _) (pur_refO _)) (by simp) ?_
  refine w_keep [(0, refL r), (1, refO r)] ⟨rfl, rfl, trivial⟩ ?_
  unfold c27
  refine awp_seq ?_
  refine w_reg (l := r27_0.toList) rfl r27_0_ok ?_
  refine a_op rfl (o_box (N := 0) rfl (by first | exact good_refO _ _ | exact good_refL _ _ | rfl | exact (cT _).2 _ | exact (cS _).2 _ | exact (cR _).2 _ | exact (cP _).2 _ | exact good_ag4 (cT _) (cel_sl (pu_streetA _)) (cel_sl (pu_rng _)) (cel_sl (pu_ptr _)) _) rfl rfl) ?_
  refine a_op rfl (o_box (N := 1) rfl (by first | exact good_refO _ _ | exact good_refL _ _ | rfl | exact (cT _).2 _ | exact (cS _).2 _ | exact (cR _).2 _ | exact (cP _).2 _ | exact good_ag4 (cT _) (cel_sl (pu_streetA _)) (cel_sl (pu_rng _)) (cel_sl (pu_ptr _)) _) rfl rfl) ?_
  refine a_op rfl (o_as rfl) ?_
  refine a_nil ?_
  refine tq_n ?_
  refine awp_seq ?_
  refine w_reg (l := r27_1.toList) rfl r27_1_ok ?_
  refine a_op rfl ((by first | exact o_ldg tg30 tn30 rfl rfl | exact o_ldpg tg30 tn30 rfl rfl rfl rfl)) ?_
  refine a_op rfl ((by first | exact o_ldg tg30 tn30 rfl rfl | exact o_ldpg tg30 tn30 rfl rfl rfl rfl)) ?_
  refine a_pureb rfl rfl rfl cb49 (sameRefer_ok _ hr) (fun h1 => ?_) (fun h2 => ?_)
  · refine a_op rfl (o_mv rfl) ?_
    refine a_op rfl ((by first | exact o_fa tf30_0 rfl rfl | exact o_fap tf30_0 rfl rfl)) ?_
    refine a_op rfl ((by first | exact o_ld tg25 rfl rfl | exact o_ldp tg25 rfl rfl rfl rfl)) ?_
    refine a_op rfl ((by first | exact o_fa tf30_0 rfl rfl | exact o_fap tf30_0 rfl rfl)) ?_
    refine a_op rfl ((by first | exact o_ld tg25 rfl rfl | exact o_ldp tg25 rfl rfl rfl rfl)) ?_
    refine a_pureb rfl rfl rfl cb50 (keptTowns_ok _ _ hr.h1 hr.t1) (fun h3 => ?_) (fun h4 => ?_)
    · refine a_op rfl (o_pkt rfl rfl) ?_
      refine a_op rfl (o_mv rfl) ?_
      refine a_op rfl ((by first | exact o_fa tf30_1 rfl rfl | exact o_fap tf30_1 rfl rfl)) ?_
      refine a_op rfl ((by first | exact o_ld tg26 rfl rfl | exact o_ldp tg26 rfl rfl rfl rfl)) ?_
      refine a_op rfl ((by first | exact o_fa tf30_1 rfl rfl | exact o_fap tf30_1 rfl rfl)) ?_
      refine a_op rfl ((by first | exact o_ld tg26 rfl rfl | exact o_ldp tg26 rfl rfl rfl rfl)) ?_
      refine a_pureb rfl rfl rfl cb51 (keptStreets_ok _ _ hr.h2 hr.t2) (fun h5 => ?_) (fun h6 => ?_)
      · refine a_op rfl (o_pkt rfl rfl) ?_
        refine a_op rfl (o_mv rfl) ?_
        refine a_op rfl ((by first | exact o_fa tf30_2 rfl rfl | exact o_fap tf30_2 rfl rfl)) ?_
        refine a_op rfl ((by first | exact o_ld tg27 rfl rfl | exact o_ldp tg27 rfl rfl rfl rfl)) ?_
        refine a_op rfl ((by first | exact o_fa tf30_2 rfl rfl | exact o_fap tf30_2 rfl rfl)) ?_
        refine a_op rfl ((by first | exact o_ld tg27 rfl rfl | exact o_ldp tg27 rfl rfl rfl rfl)) ?_
        refine a_pureb rfl rfl rfl cb52 (keptRanges_ok _ _ hr.h3) (fun h7 => ?_) (fun h8 => ?_)
        · refine a_op rfl (o_pkt rfl rfl) ?_
          refine a_op rfl (o_mv rfl) ?_
          refine a_op rfl ((by first | exact o_fa tf30_3 rfl rfl | exact o_fap tf30_3 rfl rfl)) ?_
          refine a_op rfl ((by first | exact o_ld tg28 rfl rfl | exact o_ldp tg28 rfl rfl rfl rfl)) ?_
          refine a_op rfl ((by first | exact o_fa tf30_3 rfl rfl | exact o_fap tf30_3 rfl rfl)) ?_
          refine a_op rfl ((by first | exact o_ld tg28 rfl rfl | exact o_ldp tg28 rfl rfl rfl rfl)) ?_
          refine a_pure rfl rfl rfl cb53 (keptPoints_ok _ _ hr.h4) ?_
          refine a_op rfl (o_pkt rfl rfl) ?_
          refine a_op rfl (o_as rfl) ?_
          refine a_nil ?_
          refine tq_n ?_
          refine awp_ret ?_
          refine r_one rfl ⟨rfl, trivial⟩ ?_
          exact rs_pur (by simp) rfl
        cases h8
      cases h6
    cases h4
  cases h2
noncomputable def r7_0 : Array Oper := opsAt Tryd.f7 [0]
theorem r7_0_ok : dstOk 57 r7_0.toList = true ∧ r7_0.toList.all (fun o => noDefer o.op) = true := by decide +kernel
noncomputable def r7_1 : Array Oper := opsAt Tryd.f7 [1, 0, 0]
theorem r7_1_ok : dstOk 57 r7_1.toList = true ∧ r7_1.toList.all (fun o => noDefer o.op) = true := by decide +kernel
noncomputable def r7_2 : Array Oper := opsAt Tryd.f7 [1, 0, 1, 0, 0]
theorem r7_2_ok : dstOk 57 r7_2.toList = true ∧ r7_2.toList.all (fun o => noDefer o.op) = true := by decide +kernel
noncomputable def r7_3 : Array Oper := opsAt Tryd.f7 [1, 1, 0]
theorem r7_3_ok : dstOk 57 r7_3.toList = true ∧ r7_3.toList.all (fun o => noDefer o.op) = true := by decide +kernel
noncomputable def r7_4 : Array Oper := opsAt Tryd.f7 [1, 1, 1, 0]
theorem r7_4_ok : dstOk 57 r7_4.toList = true ∧ r7_4.toList.all (fun o => noDefer o.op) = true := by decide +kernel
noncomputable def r7_5 : Array Oper := opsAt Tryd.f7 [1, 1, 1, 1, 0]
theorem r7_5_ok : dstOk 57 r7_5.toList = true ∧ r7_5.toList.all (fun o => noDefer o.op) = true := by decide +kernel
noncomputable def r7_6 : Array Oper := opsAt Tryd.f7 [1, 1, 1, 1, 1, 0]
theorem r7_6_ok : dstOk 57 r7_6.toList = true ∧ r7_6.toList.all (fun o => noDefer o.op) = true := by decide +kernel
noncomputable def c7 : Code := (.seq (.region 0 r7_0 false) (.seq (.seq (.region 1 r7_1 false) (.cond (.tmp 18) (.seq (.region 2 r7_2 false) .ret) .skip)) (.seq (.region 3 r7_3 false) (.seq (.region 4 r7_4 false) (.seq (.region 5 r7_5 false) (.seq (.region 6 r7_6 false) .ret))))))
theorem body7 : Tryd.f7.body = some c7 := by kernel_rfl
theorem valid7_ok (r : ReferR) (hr : r.ok) (b : Bool) (rules : List RuleR) (hl : rules.length * 40 ≤ 140737488351232) (hx1 : ∀ x ∈ rules, x.ok) : PureCall Tryd.prog GL 7 [refO r, .sl 5 b (rules.map ruleAV)] (.raw (.bool true)) := by
  refine pure_of_body Tryd.func7 body7 (Nat.le_of_ble_eq_true rfl) (pur2 (pur_refO _) (.sl (pu_rul _))) (by simp) ?_
  refine w_keep [(0, refO r), (1, .sl 5 b (rules.map ruleAV))] ⟨rfl, rfl, trivial⟩ ?_
  unfold c7
  have q4 := hr.h4
  refine awp_seq ?_
  refine w_reg (l := r7_0.toList) rfl r7_0_ok ?_
  refine a_op rfl (o_box (N := 0) rfl (by first | exact good_refO _ _ | exact good_refL _ _ | rfl | exact (cT _).2 _ | exact (cS _).2 _ | exact (cR _).2 _ | exact (cP _).2 _ | exact good_ag4 (cT _) (cel_sl (pu_streetA _)) (cel_sl (pu_rng _)) (cel_sl (pu_ptr _)) _) rfl rfl) ?_
  refine a_op rfl (o_as rfl) ?_
  refine a_nil ?_
  refine tq_n ?_
  refine awp_seq ?_
  refine awp_seq ?_
  refine w_reg (l := r7_1.toList) rfl r7_1_ok ?_
  refine a_op rfl ((by first | exact o_ldg tg30 tn30 rfl rfl | exact o_ldpg tg30 tn30 rfl rfl rfl rfl)) ?_
  refine a_pureb rfl rfl rfl cb22 (few_ok _ hr) (fun h1 => ?_) (fun h2 => ?_)
  · refine a_op rfl (o_ntt rfl) ?_
    refine a_op rfl (o_mv rfl) ?_
    refine a_op rfl (o_mv rfl) ?_
    refine a_op rfl (o_len rfl rfl (by first | exact List.length_map .. | rfl) tl32) ?_
    refine a_if rfl (o_gt rfl rfl) (fun h3 => ?_) (fun h4 => ?_)
    · refine a_op rfl (o_pkf rfl rfl) ?_
      refine a_nil ?_
      refine tq_n ?_
      refine w_true rfl ?_
      refine awp_seq ?_
      refine w_reg (l := r7_2.toList) rfl r7_2_ok ?_
      refine a_pure rfl rfl rfl cb15 (awake_ok) ?_
      refine a_op rfl (o_as rfl) ?_
      refine a_nil ?_
      refine tq_n ?_
      refine awp_ret ?_
      refine tq_r ?_
      refine r_one rfl ⟨rfl, trivial⟩ ?_
      exact rs_pur (by simp) rfl
    refine a_op rfl (o_pkf rfl rfl) ?_
    refine a_nil ?_
    refine tq_n ?_
    refine w_false rfl ?_
    refine awp_skip ?_
    refine tq_n ?_
    refine awp_seq ?_
    refine w_reg (l := r7_3.toList) rfl r7_3_ok ?_
    refine a_op rfl ((by first | exact o_ldg tg30 tn30 rfl rfl | exact o_ldpg tg30 tn30 rfl rfl rfl rfl)) ?_
    refine a_pure rfl rfl rfl cb23 (lentRefer_ok _ hr) ?_
    refine a_op rfl (o_mv rfl) ?_
    refine a_pure rfl rfl rfl cb24 (lentRules_ok _ _ hl) ?_
    refine a_op rfl (o_al (N := 1) tz30 rfl rfl rfl) ?_
    refine a_op0 rfl (o_st (N := 3) tn30 rfl rfl (by first | exact good_refO _ _ | exact good_refL _ _ | rfl | exact (cT _).2 _ | exact (cS _).2 _ | exact (cR _).2 _ | exact (cP _).2 _ | exact good_ag4 (cT _) (cel_sl (pu_streetA _)) (cel_sl (pu_rng _)) (cel_sl (pu_ptr _)) _) rfl rfl) ?_
    refine a_op rfl (o_as rfl) ?_
    refine a_nil ?_
    refine tq_n ?_
    refine awp_seq ?_
    refine w_reg (l := r7_4.toList) rfl r7_4_ok ?_
    refine a_op rfl ((by first | exact o_ldg tg30 tn30 rfl rfl | exact o_ldpg tg30 tn30 rfl rfl rfl rfl)) ?_
    refine a_op rfl (o_mv rfl) ?_
    refine a_pure rfl rfl rfl cb25 (rValid_ok _ _ _ (cel_sl (pu_townA _)) (cel_sl (pu_streetA _)) (cel_sl (pu_rng _)) _ _ (by omega) _ _ (by omega) hx1) ?_
    refine a_op rfl (o_mv rfl) ?_
    refine a_op rfl (o_ex rfl rfl) ?_
    refine a_op rfl (o_ex rfl rfl) ?_
    refine a_op rfl (o_as rfl) ?_
    refine a_op rfl (o_as rfl) ?_
    refine a_nil ?_
    refine tq_n ?_
    refine awp_seq ?_
    refine w_reg (l := r7_5.toList) rfl r7_5_ok ?_
    refine a_op rfl ((by first | exact o_ldg tg30 tn30 rfl rfl | exact o_ldpg tg30 tn30 rfl rfl rfl rfl)) ?_
    refine a_op rfl (o_mv rfl) ?_
    refine a_lend (vs' := [.agg [lT r, lS r, lR r, .sl 8 false (r.points.map ptAV)], .sl 5 false (rules.map ruleAV)]) rfl rfl rfl cb26 (Valid_ok _ _ _ (cT r) (cS r) (cR r) false r.points (by omega) false rules (by omega) hx1) ⟨rs_agg ⟨rs_pur (cT r).1 rfl, rs_pur (cS r).1 rfl, rs_pur (cR r).1 rfl, rs_slbv (by simp) (pu_ptr _) (take_marks ..), trivial⟩, rs_slbv (by simp) (pu_rul _) (take_marks ..), trivial⟩ (by simp) ?_
    refine a_op rfl (o_mv rfl) ?_
    refine a_op rfl (o_ex rfl rfl) ?_
    refine a_op rfl (o_ex rfl rfl) ?_
    refine a_op rfl (o_as rfl) ?_
    refine a_op rfl (o_as rfl) ?_
    refine a_nil ?_
    refine tq_n ?_
    refine awp_seq ?_
    refine w_reg (l := r7_6.toList) rfl r7_6_ok ?_
    refine a_op rfl (o_mv rfl) ?_
    refine a_op rfl (o_mv rfl) ?_
    refine a_if rfl (o_eq rfl rfl) (fun h5 => ?_) (fun h6 => ?_)
    · refine a_op rfl (o_mv rfl) ?_
      refine a_op rfl (o_mv rfl) ?_
      refine a_op rfl (o_mv rfl) ?_
      refine a_if rfl (o_eq rfl rfl) (fun h7 => ?_) (fun h8 => ?_)
      · refine a_op rfl (o_pkt rfl rfl) ?_
        refine a_op rfl (o_mv rfl) ?_
        refine a_op rfl ((by first | exact o_ldg tg30 tn30 rfl rfl | exact o_ldpg tg30 tn30 rfl rfl rfl rfl)) ?_
        refine a_op rfl ((by first | exact o_ldg tg30 tn30 rfl rfl | exact o_ldpg tg30 tn30 rfl rfl rfl rfl)) ?_
        refine a_pureb rfl rfl rfl cb27 (keptRefer_ok _ hr) (fun h9 => ?_) (fun h10 => ?_)
        · refine a_op rfl (o_pkt rfl rfl) ?_
          refine a_op rfl (o_mv rfl) ?_
          refine a_op rfl (o_mv rfl) ?_
          refine a_op rfl (o_mv rfl) ?_
          refine a_pureb rfl rfl rfl cb28 (keptRules_ok _ _ hl) (fun h11 => ?_) (fun h12 => ?_)
          · refine a_op rfl (o_pkt rfl rfl) ?_
            refine a_op rfl (o_mv rfl) ?_
            refine a_pure rfl rfl rfl cb15 (awake_ok) ?_
            refine a_op rfl (o_pkt rfl rfl) ?_
            refine a_op rfl (o_as rfl) ?_
            refine a_nil ?_
            refine tq_n ?_
            refine awp_ret ?_
            refine r_one rfl ⟨rfl, trivial⟩ ?_
            exact rs_pur (by simp) rfl
          cases h12
        cases h10
      omega
    omega
  refine a_op rfl (o_ntf rfl) ?_
  refine a_op rfl (o_mv rfl) ?_
  refine a_off rfl ?_
  refine a_off rfl ?_
  refine a_off rfl ?_
  refine a_op rfl (o_pkt rfl rfl) ?_
  refine a_nil ?_
  refine tq_n ?_
  refine w_true rfl ?_
  refine awp_seq ?_
  refine w_reg (l := r7_2.toList) rfl r7_2_ok ?_
  refine a_pure rfl rfl rfl cb15 (awake_ok) ?_
  refine a_op rfl (o_as rfl) ?_
  refine a_nil ?_
  refine tq_n ?_
  refine awp_ret ?_
  refine tq_r ?_
  refine r_one rfl ⟨rfl, trivial⟩ ?_
  exact rs_pur (by simp) rfl
end Go.Ab.D
