/- What functions of this program compute, and the laws of what they compute, under the bounds on lengths that each contract states. -/
import Derived.Test.YtghoaglolhdoeaaDoorD30
set_option linter.unusedSimpArgs false
set_option linter.unusedVariables false
namespace Go.Ab.D
open Go Go.Ab Go.Proofs
structure TownR where
  id : Int
  country : Int
  name : ByteArray
  region : ByteArray
  texts : List ByteArray
structure StreetR where
  id : Int
  town : Int
  dir : ByteArray
  name : ByteArray
  suffix : ByteArray
  texts : List ByteArray
def townV (t : TownR) (a : AV) : AV := .agg [.raw (.int .i64 t.id), .raw (.int .u8 t.country), .raw (.string t.name), .raw (.string t.region), a]
def streetV (t : StreetR) (a : AV) : AV := .agg [.raw (.int .i64 t.id), .raw (.int .i64 t.town), .raw (.string t.dir), .raw (.string t.name), .raw (.string t.suffix), a]
def lentTx (l : List ByteArray) : AV := .slb 1 l.length ((l ++ mks mkText 12).map strAV)
def ownTx (l : List ByteArray) : AV := .sl 1 false (l.map strAV)
def townAV (t : TownR) : AV := townV t (ownTx t.texts)
def townLV (t : TownR) : AV := townV t (lentTx t.texts)
def mkTownR (i : Int) : TownR := ⟨mk1 i, 0, { data := #[] }, { data := #[] }, []⟩
def mkTown (i : Int) : AV := townV (mkTownR i) nilS
def streetAV (t : StreetR) : AV := streetV t (ownTx t.texts)
def streetLV (t : StreetR) : AV := streetV t (lentTx t.texts)
def mkStreetR (i : Int) : StreetR := ⟨mk1 i, 0, { data := #[] }, { data := #[] }, { data := #[] }, []⟩
def mkStreet (i : Int) : AV := streetV (mkStreetR i) nilS
theorem cel_own (l : List ByteArray) : Cel (ownTx l) := ⟨.sl (pu_str _), fun _ => rfl⟩
theorem cel_lent (l : List ByteArray) : Cel (lentTx l) := ⟨.slb (pu_str _), fun _ => rfl⟩
theorem cel_nilT : Cel nilS := cel_nil
theorem pur_townV {t : TownR} {a : AV} (h : Cel a) : Pur (townV t a) := by simp [townV, h.1]
theorem pur_streetV {t : StreetR} {a : AV} (h : Cel a) : Pur (streetV t a) := by simp [streetV, h.1]
theorem townG {t : TownR} {a : AV} (h : Cel a) (H : Heap) : (townV t a).goodPart H = true := by
  simp only [townV, AV.goodPart, List.all_cons, List.all_nil, Bool.and_true, h.2, Bool.and_eq_true]; exact ⟨rfl, rfl, rfl, rfl⟩
theorem streetG {t : StreetR} {a : AV} (h : Cel a) (H : Heap) : (streetV t a).goodPart H = true := by
  simp only [streetV, AV.goodPart, List.all_cons, List.all_nil, Bool.and_true, h.2, Bool.and_eq_true]; exact ⟨rfl, rfl, rfl, rfl, rfl⟩
theorem pu_townL (l : List TownR) : ∀ x ∈ l.map townLV, Pur x := by intro x hx; obtain ⟨t, _, rfl⟩ := List.mem_map.1 hx; exact pur_townV (cel_lent _)
theorem pu_townA (l : List TownR) : ∀ x ∈ l.map townAV, Pur x := by intro x hx; obtain ⟨t, _, rfl⟩ := List.mem_map.1 hx; exact pur_townV (cel_own _)
theorem pu_townM (n : Nat) : ∀ x ∈ mks mkTown n, Pur x := by intro x hx; obtain ⟨t, _, rfl⟩ := List.mem_map.1 hx; exact pur_townV cel_nilT
theorem pu_streetL (l : List StreetR) : ∀ x ∈ l.map streetLV, Pur x := by intro x hx; obtain ⟨t, _, rfl⟩ := List.mem_map.1 hx; exact pur_streetV (cel_lent _)
theorem pu_streetA (l : List StreetR) : ∀ x ∈ l.map streetAV, Pur x := by intro x hx; obtain ⟨t, _, rfl⟩ := List.mem_map.1 hx; exact pur_streetV (cel_own _)
theorem pu_streetM (n : Nat) : ∀ x ∈ mks mkStreet n, Pur x := by intro x hx; obtain ⟨t, _, rfl⟩ := List.mem_map.1 hx; exact pur_streetV cel_nilT
theorem pu_app {a b : List AV} (h : ∀ x ∈ a, Pur x) (h2 : ∀ x ∈ b, Pur x) : ∀ x ∈ a ++ b, Pur x := fun x hx => (List.mem_append.1 hx).elim (h x) (h2 x)
theorem pu_one {a : AV} (h : Pur a) : ∀ x ∈ [a], Pur x := pur1 h
theorem at_lo2 {α : Type} (f : α → AV) {l : List α} {m : List AV} {i : Nat} (h : i < l.length) : (l.map f ++ m)[i]? = some (f l[i]) := by
  rw [List.getElem?_append_left (by simpa using h), List.getElem?_map, List.getElem?_eq_getElem h]; rfl
theorem at_hi2 {α : Type} (f : α → AV) (g : Int → AV) {l : List α} {i n : Nat} (h : l.length ≤ i) (h2 : i < l.length + n) : (l.map f ++ mks g n)[i]? = some (g ((i : Int) - (l.length : Int))) := by
  rw [List.getElem?_append_right (by simpa using h), List.getElem?_eq_getElem (by rw [mks_len]; simp; omega)]
  simp only [mks, List.getElem_map, List.getElem_range, List.length_map]
  congr 2; omega

theorem sameTexts_nil  : PureCall Tryd.prog GL 106 [nilS, nilS] (.raw (.bool true)) := by
  refine pure_of_body Tryd.func106 body106 (Nat.le_of_ble_eq_true rfl) (pur2 cel_nilT.1 cel_nilT.1) (by simp) ?_
  refine w_keep [(0, nilS), (1, nilS)] ⟨rfl, rfl, trivial⟩ ?_
  unfold c106
  refine awp_seq ?_
  refine w_reg (l := r106_0.toList) rfl r106_0_ok ?_
  refine a_op rfl (o_as rfl) ?_
  refine a_nil ?_
  refine tq_n ?_
  refine awp_seq ?_
  refine awp_seq ?_
  refine w_reg (l := r106_1.toList) rfl r106_1_ok ?_
  refine a_op rfl (o_mv rfl) ?_
  refine a_op rfl (o_len rfl rfl (by first | exact List.length_map .. | rfl) tl111) ?_
  refine a_op rfl (o_mv rfl) ?_
  refine a_op rfl (o_len rfl rfl (by first | exact List.length_map .. | rfl) tl111) ?_
  refine a_if rfl (o_ne rfl rfl) (fun h1 => ?_) (fun h2 => ?_)
  · omega
  refine a_nil ?_
  refine tq_n ?_
  refine w_false rfl ?_
  refine awp_skip ?_
  refine tq_n ?_
  refine awp_seq ?_
  refine awp_seq ?_
  refine w_reg (l := r106_3.toList) rfl r106_3_ok ?_
  refine a_op rfl (o_as rfl) ?_
  refine a_nil ?_
  refine tq_n ?_
  refine awp_block ?_
  refine w_loop (fun _ : Unit => True) (fun _ => [(0, nilS), (1, nilS), (5, .raw (.int .i64 0))]) (fun _ => []) (fun _ => 0) (()) trivial ⟨(by first | exact sub_int rfl (by omega) | rfl), (by first | exact sub_int rfl (by omega) | rfl), (by first | exact sub_int rfl (by omega) | rfl), trivial⟩ rfl ?_
  intro _ _
  unfold b106_0
  refine awp_seq ?_
  refine awp_seq ?_
  refine w_reg (l := r106_4.toList) rfl r106_4_ok ?_
  refine a_op rfl (o_mv rfl) ?_
  refine a_op rfl (o_mv rfl) ?_
  refine a_op rfl (o_len rfl rfl (by first | exact List.length_map .. | rfl) tl111) ?_
  refine a_if rfl (o_lt rfl rfl) (fun h3 => ?_) (fun h4 => ?_)
  · omega
  refine a_nil ?_
  refine tq_n ?_
  refine w_false rfl ?_
  refine awp_exit ?_
  refine tq_x ?_
  refine tq_x ?_
  refine bq_hit ?_
  refine tq_n ?_
  refine awp_seq ?_
  refine w_reg (l := r106_8.toList) rfl r106_8_ok ?_
  refine a_op rfl (o_as rfl) ?_
  refine a_nil ?_
  refine tq_n ?_
  refine awp_ret ?_
  refine r_one rfl ⟨rfl, trivial⟩ ?_
  exact rs_pur (by simp) rfl
noncomputable def r68_0 : Array Oper := opsAt Tryd.f68 [0]
theorem r68_0_ok : dstOk 8 r68_0.toList = true ∧ r68_0.toList.all (fun o => noDefer o.op) = true := by decide +kernel
noncomputable def r68_1 : Array Oper := opsAt Tryd.f68 [1, 0]
theorem r68_1_ok : dstOk 8 r68_1.toList = true ∧ r68_1.toList.all (fun o => noDefer o.op) = true := by decide +kernel
noncomputable def r68_2 : Array Oper := opsAt Tryd.f68 [1, 1, 0]
theorem r68_2_ok : dstOk 8 r68_2.toList = true ∧ r68_2.toList.all (fun o => noDefer o.op) = true := by decide +kernel
noncomputable def c68 : Code := (.seq (.region 0 r68_0 false) (.seq (.region 1 r68_1 false) (.seq (.region 2 r68_2 false) .ret)))
theorem body68 : Tryd.f68.body = some c68 := by kernel_rfl
theorem lentTown_ok (t : TownR) (hc : t.texts.length * 16 ≤ 140737488351232) : PureCall Tryd.prog GL 68 [townAV t] (townLV t) := by
  refine pure_of_body Tryd.func68 body68 (Nat.le_of_ble_eq_true rfl) (pur1 (pur_townV (cel_own _))) (pur_townV (cel_lent _)) ?_
  refine w_keep [(0, townAV t)] ⟨rfl, trivial⟩ ?_
  unfold c68
  refine awp_seq ?_
  refine w_reg (l := r68_0.toList) rfl r68_0_ok ?_
  refine a_op rfl (o_box (N := 0) rfl (townG (cel_own _) _) rfl rfl) ?_
  refine a_op rfl (o_al (N := 1) tz113 rfl rfl rfl) ?_
  refine a_nil ?_
  refine tq_n ?_
  refine awp_seq ?_
  refine w_reg (l := r68_1.toList) rfl r68_1_ok ?_
  refine a_op rfl ((by first | exact o_fa tf113_4 rfl rfl | exact o_fap tf113_4 rfl rfl)) ?_
  refine a_op rfl ((by first | exact o_ld tg111 rfl rfl | exact o_ldp tg111 rfl rfl rfl rfl)) ?_
  refine a_pure rfl rfl rfl cb101 (lentTexts_ok _ _ hc) ?_
  refine a_op rfl ((by first | exact o_fa tf113_4 rfl rfl | exact o_fap tf113_4 rfl rfl)) ?_
  refine a_op0 rfl (o_st (N := 0) tn111 rfl rfl (by first | rfl | exact townG (cel_lent _) _ | exact (cel_lent _).2 _ | exact townG (cel_own _) _ | exact townG cel_nilT _) rfl rfl) ?_
  refine a_nil ?_
  refine tq_n ?_
  refine awp_seq ?_
  refine w_reg (l := r68_2.toList) rfl r68_2_ok ?_
  refine a_op rfl ((by first | exact o_ldg tg113 tn113 rfl rfl | exact o_ldpg tg113 tn113 rfl rfl rfl rfl)) ?_
  refine a_op0 rfl (o_st (N := 4) tn113 rfl rfl (by first | rfl | exact townG (cel_lent _) _ | exact (cel_lent _).2 _ | exact townG (cel_own _) _ | exact townG cel_nilT _) rfl rfl) ?_
  refine a_nil ?_
  refine tq_n ?_
  refine awp_ret ?_
  refine r_one rfl ⟨c_ag tg113 tn113 rfl rfl, trivial⟩ ?_
  exact rs_pur (pur_townV (cel_lent _)) rfl
noncomputable def r69_0 : Array Oper := opsAt Tryd.f69 [0]
theorem r69_0_ok : dstOk 9 r69_0.toList = true ∧ r69_0.toList.all (fun o => noDefer o.op) = true := by decide +kernel
noncomputable def r69_1 : Array Oper := opsAt Tryd.f69 [1, 0]
theorem r69_1_ok : dstOk 9 r69_1.toList = true ∧ r69_1.toList.all (fun o => noDefer o.op) = true := by decide +kernel
noncomputable def c69 : Code := (.seq (.region 0 r69_0 false) (.seq (.region 1 r69_1 false) .ret))
theorem body69 : Tryd.f69.body = some c69 := by kernel_rfl
theorem markTown_ok (i : Int) (h0 : 0 ≤ i) (h1 : i < 12) : PureCall Tryd.prog GL 69 [.raw (.int .i64 1), .raw (.int .i64 i)] (mkTown i) := by
  refine pure_of_body Tryd.func69 body69 (Nat.le_of_ble_eq_true rfl) (by simp) (pur_townV cel_nilT) ?_
  refine w_keep [(0, .raw (.int .i64 1)), (1, .raw (.int .i64 i))] ⟨rfl, rfl, trivial⟩ ?_
  unfold c69
  refine awp_seq ?_
  refine w_reg (l := r69_0.toList) rfl r69_0_ok ?_
  refine a_op rfl (o_al (N := 0) tz113 rfl rfl rfl) ?_
  refine a_nil ?_
  refine tq_n ?_
  refine awp_seq ?_
  refine w_reg (l := r69_1.toList) rfl r69_1_ok ?_
  refine a_op rfl (o_mv rfl) ?_
  refine a_op rfl (o_mv rfl) ?_
  refine a_pure rfl rfl rfl cb74 (mark_ok _ h0 h1) ?_
  refine a_op rfl (o_bd tz113 rfl tp113 rfl rfl) ?_
  refine a_op0 rfl (o_st (N := 4) tn113 rfl rfl (by first | rfl | exact townG (cel_lent _) _ | exact (cel_lent _).2 _ | exact townG (cel_own _) _ | exact townG cel_nilT _) rfl rfl) ?_
  refine a_nil ?_
  refine tq_n ?_
  refine awp_ret ?_
  refine r_one rfl ⟨c_ag tg113 tn113 rfl rfl, trivial⟩ ?_
  exact rs_pur (pur_townV cel_nilT) rfl
noncomputable def r41_0 : Array Oper := opsAt Tryd.f41 [0]
theorem r41_0_ok : dstOk 39 r41_0.toList = true ∧ r41_0.toList.all (fun o => noDefer o.op) = true := by decide +kernel
noncomputable def r41_1 : Array Oper := opsAt Tryd.f41 [1, 0]
theorem r41_1_ok : dstOk 39 r41_1.toList = true ∧ r41_1.toList.all (fun o => noDefer o.op) = true := by decide +kernel
noncomputable def r41_2 : Array Oper := opsAt Tryd.f41 [1, 1, 0, 0]
theorem r41_2_ok : dstOk 39 r41_2.toList = true ∧ r41_2.toList.all (fun o => noDefer o.op) = true := by decide +kernel
noncomputable def r41_3 : Array Oper := opsAt Tryd.f41 [1, 1, 0, 1, 0, 0, 0, 0]
theorem r41_3_ok : dstOk 39 r41_3.toList = true ∧ r41_3.toList.all (fun o => noDefer o.op) = true := by decide +kernel
noncomputable def r41_5 : Array Oper := opsAt Tryd.f41 [1, 1, 0, 1, 0, 0, 1, 0, 0, 0]
theorem r41_5_ok : dstOk 39 r41_5.toList = true ∧ r41_5.toList.all (fun o => noDefer o.op) = true := by decide +kernel
noncomputable def r41_6 : Array Oper := opsAt Tryd.f41 [1, 1, 0, 1, 0, 0, 1, 0, 0, 1]
theorem r41_6_ok : dstOk 39 r41_6.toList = true ∧ r41_6.toList.all (fun o => noDefer o.op) = true := by decide +kernel
noncomputable def r41_4 : Array Oper := opsAt Tryd.f41 [1, 1, 0, 1, 0, 0, 1, 1]
theorem r41_4_ok : dstOk 39 r41_4.toList = true ∧ r41_4.toList.all (fun o => noDefer o.op) = true := by decide +kernel
noncomputable def b41_0 : Code := (.seq (.seq (.region 3 r41_3 false) (.cond (.tmp 14) .skip (.exit 0))) (.seq (.block 1 (.seq (.region 5 r41_5 false) (.region 6 r41_6 false))) (.region 4 r41_4 false)))
noncomputable def r41_7 : Array Oper := opsAt Tryd.f41 [1, 1, 1, 0, 0]
theorem r41_7_ok : dstOk 39 r41_7.toList = true ∧ r41_7.toList.all (fun o => noDefer o.op) = true := by decide +kernel
noncomputable def r41_8 : Array Oper := opsAt Tryd.f41 [1, 1, 1, 0, 1, 0, 0, 0, 0]
theorem r41_8_ok : dstOk 39 r41_8.toList = true ∧ r41_8.toList.all (fun o => noDefer o.op) = true := by decide +kernel
noncomputable def r41_10 : Array Oper := opsAt Tryd.f41 [1, 1, 1, 0, 1, 0, 0, 1, 0, 0]
theorem r41_10_ok : dstOk 39 r41_10.toList = true ∧ r41_10.toList.all (fun o => noDefer o.op) = true := by decide +kernel
noncomputable def r41_9 : Array Oper := opsAt Tryd.f41 [1, 1, 1, 0, 1, 0, 0, 1, 1]
theorem r41_9_ok : dstOk 39 r41_9.toList = true ∧ r41_9.toList.all (fun o => noDefer o.op) = true := by decide +kernel
noncomputable def b41_1 : Code := (.seq (.seq (.region 8 r41_8 false) (.cond (.tmp 27) .skip (.exit 2))) (.seq (.block 3 (.region 10 r41_10 false)) (.region 9 r41_9 false)))
noncomputable def r41_11 : Array Oper := opsAt Tryd.f41 [1, 1, 1, 1, 0]
theorem r41_11_ok : dstOk 39 r41_11.toList = true ∧ r41_11.toList.all (fun o => noDefer o.op) = true := by decide +kernel
noncomputable def c41 : Code := (.seq (.region 0 r41_0 false) (.seq (.region 1 r41_1 false) (.seq (.seq (.region 2 r41_2 false) (.block 0 (.loop b41_0))) (.seq (.seq (.region 7 r41_7 false) (.block 2 (.loop b41_1))) (.seq (.region 11 r41_11 false) .ret)))))
theorem body41 : Tryd.f41.body = some c41 := by kernel_rfl
theorem lentTowns_ok (b : Bool) (l : List TownR) (hl : l.length * 72 ≤ 140737488351232) (hcl : ∀ t ∈ l, t.texts.length * 16 ≤ 140737488351232) : PureCall Tryd.prog GL 41 [.sl 5 b (l.map townAV)] (.slb 5 l.length (l.map townLV ++ mks mkTown 12)) := by
  refine pure_of_body Tryd.func41 body41 (Nat.le_of_ble_eq_true rfl) (pur1 (.sl (pu_townA _))) (.slb (pu_app (pu_townL _) (pu_townM _))) ?_
  refine w_keep [(0, .sl 5 b (l.map townAV))] ⟨rfl, trivial⟩ ?_
  unfold c41
  refine awp_seq ?_
  refine w_reg (l := r41_0.toList) rfl r41_0_ok ?_
  refine a_op rfl (o_as rfl) ?_
  refine a_nil ?_
  refine tq_n ?_
  refine awp_seq ?_
  refine w_reg (l := r41_1.toList) rfl r41_1_ok ?_
  refine a_op rfl (o_mv rfl) ?_
  refine a_op rfl (o_len rfl rfl (by first | exact List.length_map .. | rfl) tl25) ?_
  refine a_op rfl (o_add rfl rfl (by simp only [klo, khi]; omega)) ?_
  refine a_op rfl (o_ms tE25 rfl rfl (by decide) (by omega) (by omega) (by omega) rfl rfl) ?_
  refine a_op rfl (o_as rfl) ?_
  refine a_nil ?_
  refine tq_n ?_
  refine awp_seq ?_
  refine awp_seq ?_
  refine w_reg (l := r41_2.toList) rfl r41_2_ok ?_
  refine a_op rfl (o_as rfl) ?_
  refine a_nil ?_
  refine tq_n ?_
  refine awp_block ?_
  refine w_loop (fun i : Nat => i ≤ l.length) (fun i => [(0, .sl 5 b (l.map townAV)), (3, .slo 0 (i) 0 (i)), (4, .raw (.int .i64 ((i : Nat) : Int)))]) (fun i => [.vec 5 i ((l.take i).map townLV)]) (fun i => l.length - i) (0) (by omega) ⟨(by first | exact sub_int rfl (by omega) | rfl | exact sub_eq rfl (by simp)), (by first | exact sub_int rfl (by omega) | rfl | exact sub_eq rfl (by simp)), (by first | exact sub_int rfl (by omega) | rfl | exact sub_eq rfl (by simp)), trivial⟩ rfl ?_
  intro i hp1
  unfold b41_0
  refine awp_seq ?_
  refine awp_seq ?_
  refine w_reg (l := r41_3.toList) rfl r41_3_ok ?_
  refine a_op rfl (o_mv rfl) ?_
  refine a_op rfl (o_mv rfl) ?_
  refine a_op rfl (o_len rfl rfl (by first | exact List.length_map .. | rfl) tl25) ?_
  refine a_if rfl (o_lt rfl rfl) (fun h1 => ?_) (fun h2 => ?_)
  · refine a_nil ?_
    refine tq_n ?_
    refine w_true rfl ?_
    refine awp_skip ?_
    refine tq_n ?_
    refine awp_seq ?_
    refine awp_block ?_
    refine awp_seq ?_
    have hI : i < l.length := by omega
    refine w_reg (l := r41_5.toList) rfl r41_5_ok ?_
    refine a_op rfl (o_mv rfl) ?_
    refine a_op rfl (o_mv rfl) ?_
    refine a_op rfl (o_ix te25 tn113 rfl rfl rfl (ixm _ _ _ hI)) ?_
    refine a_op rfl ((by first | exact o_ldg tg113 tn113 rfl rfl | exact o_ldpg tg113 tn113 rfl rfl rfl rfl)) ?_
    refine a_pure rfl rfl rfl cb68 (lentTown_ok _ (hcl _ (List.getElem_mem hI))) ?_
    refine a_op rfl (o_al (N := 1) tz113 rfl rfl rfl) ?_
    refine a_op0 rfl (o_st (N := 4) tn113 rfl rfl (by first | rfl | exact townG (cel_lent _) _ | exact (cel_lent _).2 _ | exact townG (cel_own _) _ | exact townG cel_nilT _) rfl rfl) ?_
    refine a_nil ?_
    refine tq_n ?_
    refine w_reg (l := r41_6.toList) rfl r41_6_ok ?_
    refine a_op rfl (o_mv rfl) ?_
    refine a_op rfl ((by first | exact o_ldg tg113 tn113 rfl rfl | exact o_ldpg tg113 tn113 rfl rfl rfl rfl)) ?_
    refine a_op rfl (o_bs tE25 (by decide) rfl rfl rfl) ?_
    refine a_op rfl (o_ap tE25 rfl rfl (by simp; omega) rfl rfl (by exact List.all_eq_true.2 (by intro x hx; rw [List.mem_singleton.1 hx]; exact townG (cel_lent _) _)) (by simp [mks]; omega) (by simp [mks]; omega) rfl rfl rfl rfl) ?_
    refine a_op rfl (o_as rfl) ?_
    refine a_nil ?_
    refine bq_n ?_
    refine tq_n ?_
    refine w_view [(0, .sl 5 b (l.map townAV)), (3, .slo 0 (i + 1) 0 (i + 1)), (4, .raw (.int .i64 ((i : Nat) : Int)))] [.vec 5 (i + 1) ((l.take i).map townLV ++ [townLV (l[i]'hI)])] 1 rfl (Nat.le_of_ble_eq_true rfl) (Nat.le_of_ble_eq_true rfl) ⟨⟨_, rfl, rs_pur (.sl (pu_townA _)) rfl⟩, ⟨_, rfl, .sloK (Nat.le_of_ble_eq_true rfl)⟩, ⟨_, rfl, rs_pur (by simp) rfl⟩, trivial⟩ ⟨ors_vec (pu_app (pu_townL _) (pu_one (pur_townV (cel_lent _)))), trivial⟩ ?_
    refine w_reg (l := r41_4.toList) rfl r41_4_ok ?_
    refine a_op rfl (o_mv rfl) ?_
    refine a_op rfl (o_add rfl rfl (by simp only [klo, khi]; omega)) ?_
    refine a_op rfl (o_as rfl) ?_
    refine a_nil ?_
    refine tq_n ?_
    exact ⟨i + 1, ⟨by omega, by omega⟩, ⟨(by first | exact sub_int rfl (by omega) | rfl | exact sub_eq rfl (by simp)), (by first | exact sub_int rfl (by omega) | rfl | exact sub_eq rfl (by simp)), (by first | exact sub_int rfl (by omega) | rfl | exact sub_eq rfl (by simp)), trivial⟩, by rw [List.take_succ_eq_append_getElem hI, List.map_append]; rfl⟩
  refine a_nil ?_
  refine tq_n ?_
  refine w_false rfl ?_
  refine awp_exit ?_
  refine tq_x ?_
  refine tq_x ?_
  refine bq_hit ?_
  refine tq_n ?_
  refine awp_seq ?_
  refine awp_seq ?_
  have hi : i = l.length := by omega
  subst hi
  refine w_reg (l := r41_7.toList) rfl r41_7_ok ?_
  refine a_op rfl (o_as rfl) ?_
  refine a_nil ?_
  refine tq_n ?_
  refine awp_block ?_
  refine w_loop (fun j : Nat => j ≤ 12) (fun j => [(0, .sl 5 b (l.map townAV)), (3, .slo 0 (l.length + j) 0 (l.length + j)), (6, .raw (.int .i64 ((j : Nat) : Int)))]) (fun j => [.vec 5 (l.length + j) (l.map townLV ++ mks mkTown j)]) (fun j => 12 - j) (0) (by omega) ⟨(by first | exact sub_int rfl (by omega) | rfl | exact sub_eq rfl (by simp)), (by first | exact sub_int rfl (by omega) | rfl | exact sub_eq rfl (by simp)), (by first | exact sub_int rfl (by omega) | rfl | exact sub_eq rfl (by simp)), trivial⟩ (by simp [mks]) ?_
  intro j hj1
  unfold b41_1
  refine awp_seq ?_
  refine awp_seq ?_
  refine w_reg (l := r41_8.toList) rfl r41_8_ok ?_
  refine a_op rfl (o_mv rfl) ?_
  refine a_if rfl (o_lt rfl rfl) (fun h3 => ?_) (fun h4 => ?_)
  · refine a_nil ?_
    refine tq_n ?_
    refine w_true rfl ?_
    refine awp_skip ?_
    refine tq_n ?_
    refine awp_seq ?_
    refine awp_block ?_
    refine w_reg (l := r41_10.toList) rfl r41_10_ok ?_
    refine a_op rfl (o_mv rfl) ?_
    refine a_op rfl (o_mv rfl) ?_
    refine a_pure rfl rfl rfl cb69 (markTown_ok _ (by omega) (by omega)) ?_
    refine a_op rfl (o_bs tE25 (by decide) rfl rfl rfl) ?_
    refine a_op rfl (o_ap tE25 rfl rfl (by simp [mks]) rfl rfl (by exact List.all_eq_true.2 (by intro x hx; rw [List.mem_singleton.1 hx]; exact townG cel_nilT _)) (by simp [mks]; omega) (by simp [mks]; omega) rfl rfl rfl rfl) ?_
    refine a_op rfl (o_as rfl) ?_
    refine a_nil ?_
    refine bq_n ?_
    refine tq_n ?_
    refine w_reg (l := r41_9.toList) rfl r41_9_ok ?_
    refine a_op rfl (o_mv rfl) ?_
    refine a_op rfl (o_add rfl rfl (by simp only [klo, khi]; omega)) ?_
    refine a_op rfl (o_as rfl) ?_
    refine a_nil ?_
    refine tq_n ?_
    exact ⟨j + 1, ⟨by omega, by omega⟩, ⟨(by first | exact sub_int rfl (by omega) | rfl | exact sub_eq rfl (by simp)), (by first | exact sub_int rfl (by omega) | rfl | exact sub_eq rfl (by simp)), (by first | exact sub_int rfl (by omega) | rfl | exact sub_eq rfl (by simp)), trivial⟩, by rw [mks_succ, ← List.append_assoc]; rfl⟩
  refine a_nil ?_
  refine tq_n ?_
  refine w_false rfl ?_
  refine awp_exit ?_
  refine tq_x ?_
  refine tq_x ?_
  refine bq_hit ?_
  refine tq_n ?_
  refine awp_seq ?_
  refine w_reg (l := r41_11.toList) rfl r41_11_ok ?_
  refine a_op rfl (o_mv rfl) ?_
  refine a_op rfl (o_mv rfl) ?_
  refine a_op rfl (o_len rfl rfl (by first | exact List.length_map .. | rfl) tl25) ?_
  refine a_op rfl (o_slh te25 tn113 rfl rfl rfl rfl (by simp)) ?_
  refine a_op rfl (o_as rfl) ?_
  refine a_nil ?_
  refine tq_n ?_
  refine awp_ret ?_
  refine r_one rfl ⟨rfl, trivial⟩ ?_
  have hj : j = 12 := by omega
  subst hj
  exact rs_slob id rfl (by simp) (pu_app (pu_townL _) (pu_townM _)) rfl
noncomputable def r82_0 : Array Oper := opsAt Tryd.f82 [0]
theorem r82_0_ok : dstOk 38 r82_0.toList = true ∧ r82_0.toList.all (fun o => noDefer o.op) = true := by decide +kernel
noncomputable def r82_1 : Array Oper := opsAt Tryd.f82 [1, 0]
theorem r82_1_ok : dstOk 38 r82_1.toList = true ∧ r82_1.toList.all (fun o => noDefer o.op) = true := by decide +kernel
noncomputable def c82 : Code := (.seq (.region 0 r82_0 false) (.seq (.region 1 r82_1 false) .ret))
theorem body82 : Tryd.f82.body = some c82 := by kernel_rfl
theorem sameTown_ok (t : TownR) (A B : AV) (hA : Cel A) (hB : Cel B) (hs : PureCall Tryd.prog GL 106 [A, B] (.raw (.bool true))) : PureCall Tryd.prog GL 82 [townV t A, townV t B] (.raw (.bool true)) := by
  refine pure_of_body Tryd.func82 body82 (Nat.le_of_ble_eq_true rfl) (pur2 (pur_townV hA) (pur_townV hB)) (by simp) ?_
  refine w_keep [(0, townV t A), (1, townV t B)] ⟨rfl, rfl, trivial⟩ ?_
  unfold c82
  refine awp_seq ?_
  refine w_reg (l := r82_0.toList) rfl r82_0_ok ?_
  refine a_op rfl (o_box (N := 0) rfl (by first | exact townG hA _ | exact townG hB _) rfl rfl) ?_
  refine a_op rfl (o_box (N := 1) rfl (by first | exact townG hA _ | exact townG hB _) rfl rfl) ?_
  refine a_op rfl (o_as rfl) ?_
  refine a_nil ?_
  refine tq_n ?_
  refine awp_seq ?_
  refine w_reg (l := r82_1.toList) rfl r82_1_ok ?_
  refine a_op rfl ((by first | exact o_fa tf113_0 rfl rfl | exact o_fap tf113_0 rfl rfl)) ?_
  refine a_op rfl ((by first | exact o_ld tg3 rfl rfl | exact o_ldp tg3 rfl rfl rfl rfl)) ?_
  refine a_op rfl ((by first | exact o_fa tf113_0 rfl rfl | exact o_fap tf113_0 rfl rfl)) ?_
  refine a_op rfl ((by first | exact o_ld tg3 rfl rfl | exact o_ldp tg3 rfl rfl rfl rfl)) ?_
  refine a_if rfl (o_eq rfl rfl) (fun h1 => ?_) (fun h2 => ?_)
  · refine a_op rfl (o_mv rfl) ?_
    refine a_op rfl ((by first | exact o_fa tf113_1 rfl rfl | exact o_fap tf113_1 rfl rfl)) ?_
    refine a_op rfl ((by first | exact o_ld tg5 rfl rfl | exact o_ldp tg5 rfl rfl rfl rfl)) ?_
    refine a_op rfl ((by first | exact o_fa tf113_1 rfl rfl | exact o_fap tf113_1 rfl rfl)) ?_
    refine a_op rfl ((by first | exact o_ld tg5 rfl rfl | exact o_ldp tg5 rfl rfl rfl rfl)) ?_
    refine a_if rfl (o_eq rfl rfl) (fun h3 => ?_) (fun h4 => ?_)
    · refine a_op rfl (o_pkt rfl rfl) ?_
      refine a_op rfl (o_mv rfl) ?_
      refine a_op rfl ((by first | exact o_fa tf113_2 rfl rfl | exact o_fap tf113_2 rfl rfl)) ?_
      refine a_op rfl ((by first | exact o_ld tg9 rfl rfl | exact o_ldp tg9 rfl rfl rfl rfl)) ?_
      refine a_op rfl ((by first | exact o_fa tf113_2 rfl rfl | exact o_fap tf113_2 rfl rfl)) ?_
      refine a_op rfl ((by first | exact o_ld tg9 rfl rfl | exact o_ldp tg9 rfl rfl rfl rfl)) ?_
      refine a_ifb rfl (o_bin rfl rfl rfl) (fun h5 => ?_) (fun h6 => ?_)
      · refine a_op rfl (o_pkt rfl rfl) ?_
        refine a_op rfl (o_mv rfl) ?_
        refine a_op rfl ((by first | exact o_fa tf113_3 rfl rfl | exact o_fap tf113_3 rfl rfl)) ?_
        refine a_op rfl ((by first | exact o_ld tg9 rfl rfl | exact o_ldp tg9 rfl rfl rfl rfl)) ?_
        refine a_op rfl ((by first | exact o_fa tf113_3 rfl rfl | exact o_fap tf113_3 rfl rfl)) ?_
        refine a_op rfl ((by first | exact o_ld tg9 rfl rfl | exact o_ldp tg9 rfl rfl rfl rfl)) ?_
        refine a_ifb rfl (o_bin rfl rfl rfl) (fun h7 => ?_) (fun h8 => ?_)
        · refine a_op rfl (o_pkt rfl rfl) ?_
          refine a_op rfl (o_mv rfl) ?_
          refine a_op rfl ((by first | exact o_fa tf113_4 rfl rfl | exact o_fap tf113_4 rfl rfl)) ?_
          refine a_op rfl ((by first | exact o_ld tg111 rfl rfl | exact o_ldp tg111 rfl rfl rfl rfl)) ?_
          refine a_op rfl ((by first | exact o_fa tf113_4 rfl rfl | exact o_fap tf113_4 rfl rfl)) ?_
          refine a_op rfl ((by first | exact o_ld tg111 rfl rfl | exact o_ldp tg111 rfl rfl rfl rfl)) ?_
          refine a_pure rfl rfl rfl cb106 (hs) ?_
          refine a_op rfl (o_pkt rfl rfl) ?_
          refine a_op rfl (o_as rfl) ?_
          refine a_nil ?_
          refine tq_n ?_
          refine awp_ret ?_
          refine r_one rfl ⟨rfl, trivial⟩ ?_
          exact rs_pur (by simp) rfl
        simp at h8
      simp at h6
    exact absurd rfl h4
  exact absurd rfl h2
theorem sameTownL_ok (t : TownR) (hc : t.texts.length * 16 ≤ 140737488351232) : PureCall Tryd.prog GL 82 [townLV t, townAV t] (.raw (.bool true)) := sameTown_ok t _ _ (cel_lent _) (cel_own _) (sameTexts_ok false t.texts hc)
theorem sameTownM_ok (i : Int) : PureCall Tryd.prog GL 82 [mkTown i, mkTown i] (.raw (.bool true)) := sameTown_ok _ _ _ cel_nilT cel_nilT sameTexts_nil
noncomputable def r81_0 : Array Oper := opsAt Tryd.f81 [0]
theorem r81_0_ok : dstOk 15 r81_0.toList = true ∧ r81_0.toList.all (fun o => noDefer o.op) = true := by decide +kernel
noncomputable def r81_1 : Array Oper := opsAt Tryd.f81 [1, 0]
theorem r81_1_ok : dstOk 15 r81_1.toList = true ∧ r81_1.toList.all (fun o => noDefer o.op) = true := by decide +kernel
noncomputable def c81 : Code := (.seq (.region 0 r81_0 false) (.seq (.region 1 r81_1 false) .ret))
theorem body81 : Tryd.f81.body = some c81 := by kernel_rfl
theorem keptTown_ok (t : TownR) (hc : t.texts.length * 16 ≤ 140737488351232) : PureCall Tryd.prog GL 81 [townLV t, townAV t] (.raw (.bool true)) := by
  refine pure_of_body Tryd.func81 body81 (Nat.le_of_ble_eq_true rfl) (pur2 (pur_townV (cel_lent _)) (pur_townV (cel_own _))) (by simp) ?_
  refine w_keep [(0, townLV t), (1, townAV t)] ⟨rfl, rfl, trivial⟩ ?_
  unfold c81
  refine awp_seq ?_
  refine w_reg (l := r81_0.toList) rfl r81_0_ok ?_
  refine a_op rfl (o_box (N := 0) rfl (by first | exact townG (cel_lent _) _ | exact townG (cel_own _) _) rfl rfl) ?_
  refine a_op rfl (o_box (N := 1) rfl (by first | exact townG (cel_lent _) _ | exact townG (cel_own _) _) rfl rfl) ?_
  refine a_op rfl (o_as rfl) ?_
  refine a_nil ?_
  refine tq_n ?_
  refine awp_seq ?_
  refine w_reg (l := r81_1.toList) rfl r81_1_ok ?_
  refine a_op rfl ((by first | exact o_ldg tg113 tn113 rfl rfl | exact o_ldpg tg113 tn113 rfl rfl rfl rfl)) ?_
  refine a_op rfl ((by first | exact o_ldg tg113 tn113 rfl rfl | exact o_ldpg tg113 tn113 rfl rfl rfl rfl)) ?_
  refine a_pureb rfl rfl rfl cb82 (sameTownL_ok _ hc) (fun h1 => ?_) (fun h2 => ?_)
  · refine a_op rfl (o_mv rfl) ?_
    refine a_op rfl ((by first | exact o_fa tf113_4 rfl rfl | exact o_fap tf113_4 rfl rfl)) ?_
    refine a_op rfl ((by first | exact o_ld tg111 rfl rfl | exact o_ldp tg111 rfl rfl rfl rfl)) ?_
    refine a_op rfl ((by first | exact o_fa tf113_4 rfl rfl | exact o_fap tf113_4 rfl rfl)) ?_
    refine a_op rfl ((by first | exact o_ld tg111 rfl rfl | exact o_ldp tg111 rfl rfl rfl rfl)) ?_
    refine a_pure rfl rfl rfl cb105 (keptTexts_ok _ _ hc) ?_
    refine a_op rfl (o_pkt rfl rfl) ?_
    refine a_op rfl (o_as rfl) ?_
    refine a_nil ?_
    refine tq_n ?_
    refine awp_ret ?_
    refine r_one rfl ⟨rfl, trivial⟩ ?_
    exact rs_pur (by simp) rfl
  cases h2
noncomputable def r77_0 : Array Oper := opsAt Tryd.f77 [0]
theorem r77_0_ok : dstOk 27 r77_0.toList = true ∧ r77_0.toList.all (fun o => noDefer o.op) = true := by decide +kernel
noncomputable def r77_1 : Array Oper := opsAt Tryd.f77 [1, 0, 0]
theorem r77_1_ok : dstOk 27 r77_1.toList = true ∧ r77_1.toList.all (fun o => noDefer o.op) = true := by decide +kernel
noncomputable def r77_2 : Array Oper := opsAt Tryd.f77 [1, 0, 1, 0, 0]
theorem r77_2_ok : dstOk 27 r77_2.toList = true ∧ r77_2.toList.all (fun o => noDefer o.op) = true := by decide +kernel
noncomputable def r77_3 : Array Oper := opsAt Tryd.f77 [1, 1, 0, 0]
theorem r77_3_ok : dstOk 27 r77_3.toList = true ∧ r77_3.toList.all (fun o => noDefer o.op) = true := by decide +kernel
noncomputable def r77_4 : Array Oper := opsAt Tryd.f77 [1, 1, 0, 1, 0, 0, 0, 0]
theorem r77_4_ok : dstOk 27 r77_4.toList = true ∧ r77_4.toList.all (fun o => noDefer o.op) = true := by decide +kernel
noncomputable def r77_6 : Array Oper := opsAt Tryd.f77 [1, 1, 0, 1, 0, 0, 1, 0, 0, 0]
theorem r77_6_ok : dstOk 27 r77_6.toList = true ∧ r77_6.toList.all (fun o => noDefer o.op) = true := by decide +kernel
noncomputable def r77_7 : Array Oper := opsAt Tryd.f77 [1, 1, 0, 1, 0, 0, 1, 0, 0, 1, 0, 0]
theorem r77_7_ok : dstOk 27 r77_7.toList = true ∧ r77_7.toList.all (fun o => noDefer o.op) = true := by decide +kernel
noncomputable def r77_5 : Array Oper := opsAt Tryd.f77 [1, 1, 0, 1, 0, 0, 1, 1]
theorem r77_5_ok : dstOk 27 r77_5.toList = true ∧ r77_5.toList.all (fun o => noDefer o.op) = true := by decide +kernel
noncomputable def b77_0 : Code := (.seq (.seq (.region 4 r77_4 false) (.cond (.tmp 14) .skip (.exit 0))) (.seq (.block 1 (.seq (.region 6 r77_6 true) (.cond (.tmp 26) (.seq (.region 7 r77_7 false) .ret) .skip))) (.region 5 r77_5 false)))
noncomputable def r77_8 : Array Oper := opsAt Tryd.f77 [1, 1, 1, 0]
theorem r77_8_ok : dstOk 27 r77_8.toList = true ∧ r77_8.toList.all (fun o => noDefer o.op) = true := by decide +kernel
noncomputable def c77 : Code := (.seq (.region 0 r77_0 false) (.seq (.seq (.region 1 r77_1 false) (.cond (.tmp 10) (.seq (.region 2 r77_2 false) .ret) .skip)) (.seq (.seq (.region 3 r77_3 false) (.block 0 (.loop b77_0))) (.seq (.region 8 r77_8 false) .ret))))
theorem body77 : Tryd.f77.body = some c77 := by kernel_rfl
theorem sameTowns_ok (b : Bool) (l : List TownR) (hl : l.length * 72 ≤ 140737488351232) (hcl : ∀ t ∈ l, t.texts.length * 16 ≤ 140737488351232) : PureCall Tryd.prog GL 77 [.slb 5 l.length (l.map townLV ++ mks mkTown 12), .sl 5 b (l.map townAV)] (.raw (.bool true)) := by
  refine pure_of_body Tryd.func77 body77 (Nat.le_of_ble_eq_true rfl) (pur2 (.slb (pu_app (pu_townL _) (pu_townM _))) (.sl (pu_townA _))) (by simp) ?_
  refine w_keep [(0, .slb 5 l.length (l.map townLV ++ mks mkTown 12)), (1, .sl 5 b (l.map townAV))] ⟨rfl, rfl, trivial⟩ ?_
  unfold c77
  refine awp_seq ?_
  refine w_reg (l := r77_0.toList) rfl r77_0_ok ?_
  refine a_op rfl (o_as rfl) ?_
  refine a_nil ?_
  refine tq_n ?_
  refine awp_seq ?_
  refine awp_seq ?_
  refine w_reg (l := r77_1.toList) rfl r77_1_ok ?_
  refine a_op rfl (o_mv rfl) ?_
  refine a_op rfl (o_len rfl rfl (by first | exact List.length_map .. | rfl) tl25) ?_
  refine a_op rfl (o_mv rfl) ?_
  refine a_op rfl (o_len rfl rfl (by first | exact List.length_map .. | rfl) tl25) ?_
  refine a_if rfl (o_ne rfl rfl) (fun h1 => ?_) (fun h2 => ?_)
  · omega
  refine a_nil ?_
  refine tq_n ?_
  refine w_false rfl ?_
  refine awp_skip ?_
  refine tq_n ?_
  refine awp_seq ?_
  refine awp_seq ?_
  refine w_reg (l := r77_3.toList) rfl r77_3_ok ?_
  refine a_op rfl (o_as rfl) ?_
  refine a_nil ?_
  refine tq_n ?_
  refine awp_block ?_
  refine w_loop (fun i : Nat => i ≤ l.length) (fun i => [(0, .slb 5 l.length (l.map townLV ++ mks mkTown 12)), (1, .sl 5 b (l.map townAV)), (5, .raw (.int .i64 (i : Int)))]) (fun _ => []) (fun i => l.length - i) (0) (by omega) ⟨(by first | exact sub_int rfl (by omega) | rfl), (by first | exact sub_int rfl (by omega) | rfl), (by first | exact sub_int rfl (by omega) | rfl), trivial⟩ rfl ?_
  intro i hp1
  unfold b77_0
  refine awp_seq ?_
  refine awp_seq ?_
  refine w_reg (l := r77_4.toList) rfl r77_4_ok ?_
  refine a_op rfl (o_mv rfl) ?_
  refine a_op rfl (o_mv rfl) ?_
  refine a_op rfl (o_len rfl rfl (by first | exact List.length_map .. | rfl) tl25) ?_
  refine a_if rfl (o_lt rfl rfl) (fun h3 => ?_) (fun h4 => ?_)
  · refine a_nil ?_
    refine tq_n ?_
    refine w_true rfl ?_
    refine awp_skip ?_
    refine tq_n ?_
    refine awp_seq ?_
    refine awp_block ?_
    refine awp_seq ?_
    have hI : i < l.length := by omega
    have hct := hcl _ (List.getElem_mem hI)
    have hA := at_lo2 townLV (m := mks mkTown 12) hI
    refine awp_draw ⟨[[], [], [0, 1], [0, 1, 2], [], [], [4, 5], [4, 5, 6], [0, 1, 2, 3, 4, 5, 6, 7], [0, 1, 2, 3, 4, 5, 6, 7, 8]], [[0], [5], [17, 18], [19], [1], [5], [21, 22], [23], [20, 24], [25]], [[], [], [], [], [], [], [], [], [], []], [none, none, none, none, none, none, none, none, none, none]⟩ mo r77_6_ok (by decide +kernel) (l := r77_6.toList) rfl ?_
    refine d_op rfl rfl rfl (fun _ => o_mv rfl) ?_
    refine d_op rfl rfl rfl (fun _ => o_mv rfl) ?_
    refine d_op rfl rfl rfl (fun _ => o_ixb te25 tn113 rfl rfl nofun rfl hA hI) ?_
    refine d_op rfl rfl rfl (fun _ => (by first | exact o_ldg tg113 tn113 rfl rfl | exact o_ldpg tg113 tn113 rfl rfl rfl rfl)) ?_
    refine d_op rfl rfl rfl (fun _ => o_mv rfl) ?_
    refine d_op rfl rfl rfl (fun _ => o_mv rfl) ?_
    refine d_op rfl rfl rfl (fun _ => o_ix te25 tn113 rfl rfl rfl (ixm _ _ _ hI)) ?_
    refine d_op rfl rfl rfl (fun _ => (by first | exact o_ldg tg113 tn113 rfl rfl | exact o_ldpg tg113 tn113 rfl rfl rfl rfl)) ?_
    refine d_pureb rfl rfl rfl rfl cb82 (sameTownL_ok _ hct) (fun h5 => ?_) (fun h6 => ?_)
    · refine d_op rfl rfl rfl (fun _ => o_ntt rfl) ?_
      refine d_nil ?_
      refine tq_n ?_
      refine w_false rfl ?_
      refine awp_skip ?_
      refine bq_n ?_
      refine tq_n ?_
      refine w_reg (l := r77_5.toList) rfl r77_5_ok ?_
      refine a_op rfl (o_mv rfl) ?_
      refine a_op rfl (o_add rfl rfl (by simp only [klo, khi]; omega)) ?_
      refine a_op rfl (o_as rfl) ?_
      refine a_nil ?_
      refine tq_n ?_
      exact ⟨i + 1, ⟨by omega, by omega⟩, ⟨(by first | exact sub_int rfl (by omega) | rfl), (by first | exact sub_int rfl (by omega) | rfl), (by first | exact sub_int rfl (by omega) | rfl), trivial⟩, rfl⟩
    cases h6
  refine a_nil ?_
  refine tq_n ?_
  refine w_false rfl ?_
  refine awp_exit ?_
  refine tq_x ?_
  refine tq_x ?_
  refine bq_hit ?_
  refine tq_n ?_
  refine awp_seq ?_
  refine w_reg (l := r77_8.toList) rfl r77_8_ok ?_
  refine a_op rfl (o_as rfl) ?_
  refine a_nil ?_
  refine tq_n ?_
  refine awp_ret ?_
  refine r_one rfl ⟨rfl, trivial⟩ ?_
  exact rs_pur (by simp) rfl
noncomputable def r50_0 : Array Oper := opsAt Tryd.f50 [0]
theorem r50_0_ok : dstOk 58 r50_0.toList = true ∧ r50_0.toList.all (fun o => noDefer o.op) = true := by decide +kernel
noncomputable def r50_1 : Array Oper := opsAt Tryd.f50 [1, 0, 0]
theorem r50_1_ok : dstOk 58 r50_1.toList = true ∧ r50_1.toList.all (fun o => noDefer o.op) = true := by decide +kernel
noncomputable def r50_2 : Array Oper := opsAt Tryd.f50 [1, 0, 1, 0, 0]
theorem r50_2_ok : dstOk 58 r50_2.toList = true ∧ r50_2.toList.all (fun o => noDefer o.op) = true := by decide +kernel
noncomputable def r50_3 : Array Oper := opsAt Tryd.f50 [1, 1, 0]
theorem r50_3_ok : dstOk 58 r50_3.toList = true ∧ r50_3.toList.all (fun o => noDefer o.op) = true := by decide +kernel
noncomputable def r50_4 : Array Oper := opsAt Tryd.f50 [1, 1, 1, 0, 0]
theorem r50_4_ok : dstOk 58 r50_4.toList = true ∧ r50_4.toList.all (fun o => noDefer o.op) = true := by decide +kernel
noncomputable def r50_5 : Array Oper := opsAt Tryd.f50 [1, 1, 1, 0, 1, 0, 0, 0, 0]
theorem r50_5_ok : dstOk 58 r50_5.toList = true ∧ r50_5.toList.all (fun o => noDefer o.op) = true := by decide +kernel
noncomputable def r50_7 : Array Oper := opsAt Tryd.f50 [1, 1, 1, 0, 1, 0, 0, 1, 0, 0, 0]
theorem r50_7_ok : dstOk 58 r50_7.toList = true ∧ r50_7.toList.all (fun o => noDefer o.op) = true := by decide +kernel
noncomputable def r50_8 : Array Oper := opsAt Tryd.f50 [1, 1, 1, 0, 1, 0, 0, 1, 0, 0, 1, 0, 0]
theorem r50_8_ok : dstOk 58 r50_8.toList = true ∧ r50_8.toList.all (fun o => noDefer o.op) = true := by decide +kernel
noncomputable def r50_6 : Array Oper := opsAt Tryd.f50 [1, 1, 1, 0, 1, 0, 0, 1, 1]
theorem r50_6_ok : dstOk 58 r50_6.toList = true ∧ r50_6.toList.all (fun o => noDefer o.op) = true := by decide +kernel
noncomputable def b50_0 : Code := (.seq (.seq (.region 5 r50_5 false) (.cond (.tmp 20) .skip (.exit 0))) (.seq (.block 1 (.seq (.region 7 r50_7 true) (.cond (.tmp 57) (.seq (.region 8 r50_8 false) .ret) .skip))) (.region 6 r50_6 false)))
noncomputable def r50_9 : Array Oper := opsAt Tryd.f50 [1, 1, 1, 1, 0]
theorem r50_9_ok : dstOk 58 r50_9.toList = true ∧ r50_9.toList.all (fun o => noDefer o.op) = true := by decide +kernel
noncomputable def c50 : Code := (.seq (.region 0 r50_0 false) (.seq (.seq (.region 1 r50_1 false) (.cond (.tmp 11) (.seq (.region 2 r50_2 false) .ret) .skip)) (.seq (.region 3 r50_3 false) (.seq (.seq (.region 4 r50_4 false) (.block 0 (.loop b50_0))) (.seq (.region 9 r50_9 false) .ret)))))
theorem body50 : Tryd.f50.body = some c50 := by kernel_rfl
theorem keptTowns_ok (b : Bool) (l : List TownR) (hl : l.length * 72 ≤ 140737488351232) (hcl : ∀ t ∈ l, t.texts.length * 16 ≤ 140737488351232) : PureCall Tryd.prog GL 50 [.slb 5 l.length (l.map townLV ++ mks mkTown 12), .sl 5 b (l.map townAV)] (.raw (.bool true)) := by
  refine pure_of_body Tryd.func50 body50 (Nat.le_of_ble_eq_true rfl) (pur2 (.slb (pu_app (pu_townL _) (pu_townM _))) (.sl (pu_townA _))) (by simp) ?_
  refine w_keep [(0, .slb 5 l.length (l.map townLV ++ mks mkTown 12)), (1, .sl 5 b (l.map townAV))] ⟨rfl, rfl, trivial⟩ ?_
  unfold c50
  have hlen : (l.map townLV ++ mks mkTown 12).length = l.length + 12 := by simp [mks]
  refine awp_seq ?_
  refine w_reg (l := r50_0.toList) rfl r50_0_ok ?_
  refine a_op rfl (o_as rfl) ?_
  refine a_nil ?_
  refine tq_n ?_
  refine awp_seq ?_
  refine awp_seq ?_
  refine w_reg (l := r50_1.toList) rfl r50_1_ok ?_
  refine a_op rfl (o_mv rfl) ?_
  refine a_op rfl (o_len rfl rfl (by first | exact List.length_map .. | rfl) tl25) ?_
  refine a_op rfl (o_mv rfl) ?_
  refine a_op rfl (o_len rfl rfl (by first | exact List.length_map .. | rfl) tl25) ?_
  refine a_if rfl (o_ne rfl rfl) (fun h1 => ?_) (fun h2 => ?_)
  · omega
  refine a_nil ?_
  refine tq_n ?_
  refine w_false rfl ?_
  refine awp_skip ?_
  refine tq_n ?_
  refine awp_seq ?_
  refine w_reg (l := r50_3.toList) rfl r50_3_ok ?_
  refine a_op rfl (o_mv rfl) ?_
  refine a_op rfl (o_mv rfl) ?_
  refine a_op rfl (o_len rfl rfl (by first | exact List.length_map .. | rfl) tl25) ?_
  refine a_op rfl (o_add rfl rfl (by simp only [klo, khi]; omega)) ?_
  refine a_op rfl (o_slb (m := l.length + 12) te25 tn113 rfl rfl (by omega) (by simp [mks])) ?_
  refine a_op rfl (o_as rfl) ?_
  refine a_nil ?_
  refine tq_n ?_
  refine awp_seq ?_
  refine awp_seq ?_
  refine w_reg (l := r50_4.toList) rfl r50_4_ok ?_
  refine a_op rfl (o_as rfl) ?_
  refine a_nil ?_
  refine tq_n ?_
  refine awp_block ?_
  refine w_loop (fun i : Nat => i ≤ l.length + 12) (fun i => [(0, .slb 5 l.length (l.map townLV ++ mks mkTown 12)), (1, .sl 5 b (l.map townAV)), (5, .sl 5 false (l.map townLV ++ mks mkTown 12)), (6, .raw (.int .i64 (i : Int)))]) (fun _ => []) (fun i => l.length + 12 - i) (0) (by omega) ⟨(by first | exact sub_int rfl (by omega) | rfl | exact sub_eq rfl (by rw [List.take_of_length_le (by simp [mks])])), (by first | exact sub_int rfl (by omega) | rfl | exact sub_eq rfl (by rw [List.take_of_length_le (by simp [mks])])), (by first | exact sub_int rfl (by omega) | rfl | exact sub_eq rfl (by rw [List.take_of_length_le (by simp [mks])])), (by first | exact sub_int rfl (by omega) | rfl | exact sub_eq rfl (by rw [List.take_of_length_le (by simp [mks])])), trivial⟩ rfl ?_
  intro i hp1
  unfold b50_0
  refine awp_seq ?_
  refine awp_seq ?_
  refine w_reg (l := r50_5.toList) rfl r50_5_ok ?_
  refine a_op rfl (o_mv rfl) ?_
  refine a_op rfl (o_mv rfl) ?_
  refine a_op rfl (o_len rfl rfl (by first | exact List.length_map .. | rfl) tl25) ?_
  refine a_if rfl (o_lt rfl rfl) (fun h3 => ?_) (fun h4 => ?_)
  · refine a_nil ?_
    refine tq_n ?_
    refine w_true rfl ?_
    refine awp_skip ?_
    refine tq_n ?_
    refine awp_seq ?_
    refine awp_block ?_
    refine awp_seq ?_
    refine awp_draw ⟨[[], [], [1], [0, 1, 2], [0, 1, 2, 3], [0, 1, 2, 3, 4], [0, 1, 2, 3, 4], [0, 1, 2, 3, 4, 5, 6], [0, 1, 2, 3, 4, 5, 6, 7], [0, 1, 2, 3, 4], [0, 1, 2, 3, 4], [0, 1, 2, 3, 4, 9, 10], [0, 1, 2, 3, 4, 9, 10, 11], [0, 1, 2, 3, 4, 5, 6, 7, 8, 9, 10, 11, 12], [0, 1, 2, 3, 4, 5, 6, 7, 8, 9, 10, 11, 12, 13], [0, 1, 2, 3, 4, 5, 6, 7, 8, 9, 10, 11, 12, 13, 14], [0, 1, 2, 3, 4, 5, 6, 7, 8, 9, 10, 11, 12, 13, 14, 15], [0, 1, 2, 3, 4, 5, 6, 7, 8, 9, 10, 11, 12, 13, 14, 15, 16], [0, 1, 2, 3, 4, 5, 6, 7, 8, 9, 10, 11, 12, 13, 14, 15, 16], [0, 1, 2, 3, 4, 5, 6, 7, 8, 9, 10, 11, 12, 13, 14, 15, 16, 18], [0, 1, 2, 3, 4, 5, 6, 7, 8, 9, 10, 11, 12, 13, 14, 15, 16, 17, 18, 19], [0, 1, 2, 3, 4, 5, 6, 7, 8, 9, 10, 11, 12, 13, 14, 15, 16, 17, 18, 19, 20], [0, 1, 2, 3, 4, 5, 6, 7, 8, 9, 10, 11, 12, 13, 14, 15, 16, 17, 18, 19, 20, 21], [0, 1, 2, 3, 4, 5, 6, 7, 8, 9, 10, 11, 12, 13, 14, 15, 16, 17, 18, 19, 20, 21], [0, 1, 2, 3, 4, 5, 6, 7, 8, 9, 10, 11, 12, 13, 14, 15, 16, 17, 18, 19, 20, 21, 22, 23], [0, 1, 2, 3, 4, 5, 6, 7, 8, 9, 10, 11, 12, 13, 14, 15, 16, 17, 18, 19, 20, 21, 22, 23, 24], [0, 1, 2, 3, 4, 5, 6, 7, 8, 9, 10, 11, 12, 13, 14, 15, 16, 17, 18, 19, 20, 21], [0, 1, 2, 3, 4, 5, 6, 7, 8, 9, 10, 11, 12, 13, 14, 15, 16, 17, 18, 19, 20, 21], [0, 1, 2, 3, 4, 5, 6, 7, 8, 9, 10, 11, 12, 13, 14, 15, 16, 17, 18, 19, 20, 21, 27], [0, 1, 2, 3, 4, 5, 6, 7, 8, 9, 10, 11, 12, 13, 14, 15, 16, 17, 18, 19, 20, 21, 26, 27, 28], [0, 1, 2, 3, 4, 5, 6, 7, 8, 9, 10, 11, 12, 13, 14, 15, 16, 17, 18, 19, 20, 21, 26, 27, 28, 29], [0, 1, 2, 3, 4, 5, 6, 7, 8, 9, 10, 11, 12, 13, 14, 15, 16, 17, 18, 19, 20, 21, 22, 23, 24, 25, 26, 27, 28, 29, 30], [0, 1, 2, 3, 4, 5, 6, 7, 8, 9, 10, 11, 12, 13, 14, 15, 16, 17, 18, 19, 20, 21, 22, 23, 24, 25, 26, 27, 28, 29, 30, 31], [0, 1, 2, 3, 4, 5, 6, 7, 8, 9, 10, 11, 12, 13, 14, 15, 16, 17, 18, 19, 20, 21, 22, 23, 24, 25, 26, 27, 28, 29, 30, 31, 32], [0, 1, 2, 3, 4, 5, 6, 7, 8, 9, 10, 11, 12, 13, 14, 15, 16, 17, 18, 19, 20, 21, 22, 23, 24, 25, 26, 27, 28, 29, 30, 31, 32, 33]], [[6], [1], [24], [23, 25], [26], [5, 27], [6, 27], [27, 28, 29], [27, 30], [1, 27], [6, 27], [27, 32, 33], [27, 34], [27, 31, 35], [27, 36], [27, 37], [38], [6, 39], [1, 39], [39, 41], [39, 40, 42], [39, 43], [5, 44], [6, 44], [44, 45, 46], [44, 47], [6, 44], [1, 44], [44, 50], [44, 49, 51], [44, 52], [44, 48, 53], [44, 54], [39, 44, 55], [39, 56]], [[], [], [], [], [], [], [], [], [], [], [], [], [], [], [], [], [], [], [], [], [], [], [], [], [], [], [], [], [], [], [], [], [], [], []], [none, none, none, none, none, none, none, none, none, none, none, none, none, none, none, none, none, none, none, none, none, none, none, none, none, none, none, none, none, none, none, none, none, none, none]⟩ mo r50_7_ok (by decide +kernel) (l := r50_7.toList) rfl ?_
    refine d_op rfl rfl rfl (fun _ => o_mv rfl) ?_
    refine d_op rfl rfl rfl (fun _ => o_mv rfl) ?_
    refine d_op rfl rfl rfl (fun _ => o_len rfl rfl (by first | exact List.length_map .. | rfl) tl25) ?_
    refine d_if rfl rfl rfl (fun _ => o_lt rfl rfl) (fun h5 => ?_) (fun h6 => ?_)
    · have hI : i < l.length := by omega
      have hct := hcl _ (List.getElem_mem hI)
      have hA := at_lo2 townLV (m := mks mkTown 12) hI
      refine d_op rfl rfl rfl (fun _ => o_mv rfl) ?_
      refine d_op rfl rfl rfl (fun _ => o_mv rfl) ?_
      refine d_op rfl rfl rfl (fun _ => o_mv rfl) ?_
      refine d_op rfl rfl rfl (fun _ => o_ix te25 tn113 rfl rfl rfl hA) ?_
      refine d_op rfl rfl rfl (fun _ => (by first | exact o_ldg tg113 tn113 rfl rfl | exact o_ldpg tg113 tn113 rfl rfl rfl rfl)) ?_
      refine d_op rfl rfl rfl (fun _ => o_mv rfl) ?_
      refine d_op rfl rfl rfl (fun _ => o_mv rfl) ?_
      refine d_op rfl rfl rfl (fun _ => o_ix te25 tn113 rfl rfl rfl (ixm _ _ _ hI)) ?_
      refine d_op rfl rfl rfl (fun _ => (by first | exact o_ldg tg113 tn113 rfl rfl | exact o_ldpg tg113 tn113 rfl rfl rfl rfl)) ?_
      refine d_pureb rfl rfl rfl rfl cb81 (keptTown_ok _ hct) (fun h7 => ?_) (fun h8 => ?_)
      · refine d_op rfl rfl rfl (fun _ => o_ntt rfl) ?_
        refine d_op rfl rfl rfl (fun _ => o_pkt rfl rfl) ?_
        refine d_op rfl rfl rfl (fun _ => o_mv rfl) ?_
        refine d_op rfl rfl rfl (fun _ => o_mv rfl) ?_
        refine d_op rfl rfl rfl (fun _ => o_mv rfl) ?_
        refine d_op rfl rfl rfl (fun _ => o_len rfl rfl (by first | exact List.length_map .. | rfl) tl25) ?_
        refine d_if rfl rfl rfl (fun _ => o_ge rfl rfl) (fun h9 => ?_) (fun h10 => ?_)
        · omega
        refine d_op rfl rfl rfl (fun _ => o_mv rfl) ?_
        refine d_off rfl rfl ?_
        refine d_off rfl rfl ?_
        refine d_off rfl rfl ?_
        refine d_off rfl rfl ?_
        refine d_off rfl rfl ?_
        refine d_off rfl rfl ?_
        refine d_off rfl rfl ?_
        refine d_off rfl rfl ?_
        refine d_off rfl rfl ?_
        refine d_off rfl rfl ?_
        refine d_off rfl rfl ?_
        refine d_op rfl rfl rfl (fun _ => o_pkf rfl rfl) ?_
        refine d_op rfl rfl rfl (fun _ => o_pkf rfl rfl) ?_
        refine d_nil ?_
        refine tq_n ?_
        refine w_false rfl ?_
        refine awp_skip ?_
        refine bq_n ?_
        refine tq_n ?_
        refine w_reg (l := r50_6.toList) rfl r50_6_ok ?_
        refine a_op rfl (o_mv rfl) ?_
        refine a_op rfl (o_add rfl rfl (by simp only [klo, khi]; omega)) ?_
        refine a_op rfl (o_as rfl) ?_
        refine a_nil ?_
        refine tq_n ?_
        exact ⟨i + 1, ⟨by omega, by omega⟩, ⟨(by first | exact sub_int rfl (by omega) | rfl | exact sub_eq rfl (by rw [List.take_of_length_le (by simp [mks])])), (by first | exact sub_int rfl (by omega) | rfl | exact sub_eq rfl (by rw [List.take_of_length_le (by simp [mks])])), (by first | exact sub_int rfl (by omega) | rfl | exact sub_eq rfl (by rw [List.take_of_length_le (by simp [mks])])), (by first | exact sub_int rfl (by omega) | rfl | exact sub_eq rfl (by rw [List.take_of_length_le (by simp [mks])])), trivial⟩, rfl⟩
      cases h8
    refine d_op rfl rfl rfl (fun _ => o_mv rfl) ?_
    refine d_off rfl rfl ?_
    refine d_off rfl rfl ?_
    refine d_off rfl rfl ?_
    refine d_off rfl rfl ?_
    refine d_off rfl rfl ?_
    refine d_off rfl rfl ?_
    refine d_off rfl rfl ?_
    refine d_off rfl rfl ?_
    refine d_off rfl rfl ?_
    refine d_off rfl rfl ?_
    refine d_op rfl rfl rfl (fun _ => o_pkf rfl rfl) ?_
    refine d_op rfl rfl rfl (fun _ => o_mv rfl) ?_
    refine d_op rfl rfl rfl (fun _ => o_mv rfl) ?_
    refine d_op rfl rfl rfl (fun _ => o_mv rfl) ?_
    refine d_op rfl rfl rfl (fun _ => o_len rfl rfl (by first | exact List.length_map .. | rfl) tl25) ?_
    refine d_if rfl rfl rfl (fun _ => o_ge rfl rfl) (fun h11 => ?_) (fun h12 => ?_)
    · have hB := at_hi2 townLV mkTown (l := l) (i := i) (n := 12) (by omega) (by omega)
      have hk0 : 0 ≤ (i : Int) - (l.length : Int) := by omega
      have hk1 : (i : Int) - (l.length : Int) < 12 := by omega
      refine d_op rfl rfl rfl (fun _ => o_mv rfl) ?_
      refine d_op rfl rfl rfl (fun _ => o_mv rfl) ?_
      refine d_op rfl rfl rfl (fun _ => o_mv rfl) ?_
      refine d_op rfl rfl rfl (fun _ => o_ix te25 tn113 rfl rfl rfl hB) ?_
      refine d_op rfl rfl rfl (fun _ => (by first | exact o_ldg tg113 tn113 rfl rfl | exact o_ldpg tg113 tn113 rfl rfl rfl rfl)) ?_
      refine d_op rfl rfl rfl (fun _ => o_mv rfl) ?_
      refine d_op rfl rfl rfl (fun _ => o_mv rfl) ?_
      refine d_op rfl rfl rfl (fun _ => o_len rfl rfl (by first | exact List.length_map .. | rfl) tl25) ?_
      refine d_op rfl rfl rfl (fun _ => o_sub rfl rfl (by simp only [klo, khi]; omega)) ?_
      refine d_pure rfl rfl rfl rfl cb69 (markTown_ok _ hk0 hk1) ?_
      refine d_pureb rfl rfl rfl rfl cb82 (sameTownM_ok _) (fun h13 => ?_) (fun h14 => ?_)
      · refine d_op rfl rfl rfl (fun _ => o_ntt rfl) ?_
        refine d_op rfl rfl rfl (fun _ => o_pkt rfl rfl) ?_
        refine d_op rfl rfl rfl (fun _ => o_pkf rfl rfl) ?_
        refine d_nil ?_
        refine tq_n ?_
        refine w_false rfl ?_
        refine awp_skip ?_
        refine bq_n ?_
        refine tq_n ?_
        refine w_reg (l := r50_6.toList) rfl r50_6_ok ?_
        refine a_op rfl (o_mv rfl) ?_
        refine a_op rfl (o_add rfl rfl (by simp only [klo, khi]; omega)) ?_
        refine a_op rfl (o_as rfl) ?_
        refine a_nil ?_
        refine tq_n ?_
        exact ⟨i + 1, ⟨by omega, by omega⟩, ⟨(by first | exact sub_int rfl (by omega) | rfl | exact sub_eq rfl (by rw [List.take_of_length_le (by simp [mks])])), (by first | exact sub_int rfl (by omega) | rfl | exact sub_eq rfl (by rw [List.take_of_length_le (by simp [mks])])), (by first | exact sub_int rfl (by omega) | rfl | exact sub_eq rfl (by rw [List.take_of_length_le (by simp [mks])])), (by first | exact sub_int rfl (by omega) | rfl | exact sub_eq rfl (by rw [List.take_of_length_le (by simp [mks])])), trivial⟩, rfl⟩
      cases h14
    omega
  refine a_nil ?_
  refine tq_n ?_
  refine w_false rfl ?_
  refine awp_exit ?_
  refine tq_x ?_
  refine tq_x ?_
  refine bq_hit ?_
  refine tq_n ?_
  refine awp_seq ?_
  refine w_reg (l := r50_9.toList) rfl r50_9_ok ?_
  refine a_op rfl (o_as rfl) ?_
  refine a_nil ?_
  refine tq_n ?_
  refine awp_ret ?_
  refine r_one rfl ⟨rfl, trivial⟩ ?_
  exact rs_pur (by simp) rfl
noncomputable def r70_0 : Array Oper := opsAt Tryd.f70 [0]
theorem r70_0_ok : dstOk 8 r70_0.toList = true ∧ r70_0.toList.all (fun o => noDefer o.op) = true := by decide +kernel
noncomputable def r70_1 : Array Oper := opsAt Tryd.f70 [1, 0]
theorem r70_1_ok : dstOk 8 r70_1.toList = true ∧ r70_1.toList.all (fun o => noDefer o.op) = true := by decide +kernel
noncomputable def r70_2 : Array Oper := opsAt Tryd.f70 [1, 1, 0]
theorem r70_2_ok : dstOk 8 r70_2.toList = true ∧ r70_2.toList.all (fun o => noDefer o.op) = true := by decide +kernel
noncomputable def c70 : Code := (.seq (.region 0 r70_0 false) (.seq (.region 1 r70_1 false) (.seq (.region 2 r70_2 false) .ret)))
theorem body70 : Tryd.f70.body = some c70 := by kernel_rfl
theorem lentStreet_ok (t : StreetR) (hc : t.texts.length * 16 ≤ 140737488351232) : PureCall Tryd.prog GL 70 [streetAV t] (streetLV t) := by
  refine pure_of_body Tryd.func70 body70 (Nat.le_of_ble_eq_true rfl) (pur1 (pur_streetV (cel_own _))) (pur_streetV (cel_lent _)) ?_
  refine w_keep [(0, streetAV t)] ⟨rfl, trivial⟩ ?_
  unfold c70
  refine awp_seq ?_
  refine w_reg (l := r70_0.toList) rfl r70_0_ok ?_
  refine a_op rfl (o_box (N := 0) rfl (streetG (cel_own _) _) rfl rfl) ?_
  refine a_op rfl (o_al (N := 1) tz117 rfl rfl rfl) ?_
  refine a_nil ?_
  refine tq_n ?_
  refine awp_seq ?_
  refine w_reg (l := r70_1.toList) rfl r70_1_ok ?_
  refine a_op rfl ((by first | exact o_fa tf117_5 rfl rfl | exact o_fap tf117_5 rfl rfl)) ?_
  refine a_op rfl ((by first | exact o_ld tg111 rfl rfl | exact o_ldp tg111 rfl rfl rfl rfl)) ?_
  refine a_pure rfl rfl rfl cb101 (lentTexts_ok _ _ hc) ?_
  refine a_op rfl ((by first | exact o_fa tf117_5 rfl rfl | exact o_fap tf117_5 rfl rfl)) ?_
  refine a_op0 rfl (o_st (N := 0) tn111 rfl rfl (by first | rfl | exact streetG (cel_lent _) _ | exact (cel_lent _).2 _ | exact streetG (cel_own _) _ | exact streetG cel_nilT _) rfl rfl) ?_
  refine a_nil ?_
  refine tq_n ?_
  refine awp_seq ?_
  refine w_reg (l := r70_2.toList) rfl r70_2_ok ?_
  refine a_op rfl ((by first | exact o_ldg tg117 tn117 rfl rfl | exact o_ldpg tg117 tn117 rfl rfl rfl rfl)) ?_
  refine a_op0 rfl (o_st (N := 5) tn117 rfl rfl (by first | rfl | exact streetG (cel_lent _) _ | exact (cel_lent _).2 _ | exact streetG (cel_own _) _ | exact streetG cel_nilT _) rfl rfl) ?_
  refine a_nil ?_
  refine tq_n ?_
  refine awp_ret ?_
  refine r_one rfl ⟨c_ag tg117 tn117 rfl rfl, trivial⟩ ?_
  exact rs_pur (pur_streetV (cel_lent _)) rfl
noncomputable def r71_0 : Array Oper := opsAt Tryd.f71 [0]
theorem r71_0_ok : dstOk 9 r71_0.toList = true ∧ r71_0.toList.all (fun o => noDefer o.op) = true := by decide +kernel
noncomputable def r71_1 : Array Oper := opsAt Tryd.f71 [1, 0]
theorem r71_1_ok : dstOk 9 r71_1.toList = true ∧ r71_1.toList.all (fun o => noDefer o.op) = true := by decide +kernel
noncomputable def c71 : Code := (.seq (.region 0 r71_0 false) (.seq (.region 1 r71_1 false) .ret))
theorem body71 : Tryd.f71.body = some c71 := by kernel_rfl
theorem markStreet_ok (i : Int) (h0 : 0 ≤ i) (h1 : i < 12) : PureCall Tryd.prog GL 71 [.raw (.int .i64 1), .raw (.int .i64 i)] (mkStreet i) := by
  refine pure_of_body Tryd.func71 body71 (Nat.le_of_ble_eq_true rfl) (by simp) (pur_streetV cel_nilT) ?_
  refine w_keep [(0, .raw (.int .i64 1)), (1, .raw (.int .i64 i))] ⟨rfl, rfl, trivial⟩ ?_
  unfold c71
  refine awp_seq ?_
  refine w_reg (l := r71_0.toList) rfl r71_0_ok ?_
  refine a_op rfl (o_al (N := 0) tz117 rfl rfl rfl) ?_
  refine a_nil ?_
  refine tq_n ?_
  refine awp_seq ?_
  refine w_reg (l := r71_1.toList) rfl r71_1_ok ?_
  refine a_op rfl (o_mv rfl) ?_
  refine a_op rfl (o_mv rfl) ?_
  refine a_pure rfl rfl rfl cb74 (mark_ok _ h0 h1) ?_
  refine a_op rfl (o_bd tz117 rfl tp117 rfl rfl) ?_
  refine a_op0 rfl (o_st (N := 5) tn117 rfl rfl (by first | rfl | exact streetG (cel_lent _) _ | exact (cel_lent _).2 _ | exact streetG (cel_own _) _ | exact streetG cel_nilT _) rfl rfl) ?_
  refine a_nil ?_
  refine tq_n ?_
  refine awp_ret ?_
  refine r_one rfl ⟨c_ag tg117 tn117 rfl rfl, trivial⟩ ?_
  exact rs_pur (pur_streetV cel_nilT) rfl
noncomputable def r42_0 : Array Oper := opsAt Tryd.f42 [0]
theorem r42_0_ok : dstOk 39 r42_0.toList = true ∧ r42_0.toList.all (fun o => noDefer o.op) = true := by decide +kernel
noncomputable def r42_1 : Array Oper := opsAt Tryd.f42 [1, 0]
theorem r42_1_ok : dstOk 39 r42_1.toList = true ∧ r42_1.toList.all (fun o => noDefer o.op) = true := by decide +kernel
noncomputable def r42_2 : Array Oper := opsAt Tryd.f42 [1, 1, 0, 0]
theorem r42_2_ok : dstOk 39 r42_2.toList = true ∧ r42_2.toList.all (fun o => noDefer o.op) = true := by decide +kernel
noncomputable def r42_3 : Array Oper := opsAt Tryd.f42 [1, 1, 0, 1, 0, 0, 0, 0]
theorem r42_3_ok : dstOk 39 r42_3.toList = true ∧ r42_3.toList.all (fun o => noDefer o.op) = true := by decide +kernel
noncomputable def r42_5 : Array Oper := opsAt Tryd.f42 [1, 1, 0, 1, 0, 0, 1, 0, 0, 0]
theorem r42_5_ok : dstOk 39 r42_5.toList = true ∧ r42_5.toList.all (fun o => noDefer o.op) = true := by decide +kernel
noncomputable def r42_6 : Array Oper := opsAt Tryd.f42 [1, 1, 0, 1, 0, 0, 1, 0, 0, 1]
theorem r42_6_ok : dstOk 39 r42_6.toList = true ∧ r42_6.toList.all (fun o => noDefer o.op) = true := by decide +kernel
noncomputable def r42_4 : Array Oper := opsAt Tryd.f42 [1, 1, 0, 1, 0, 0, 1, 1]
theorem r42_4_ok : dstOk 39 r42_4.toList = true ∧ r42_4.toList.all (fun o => noDefer o.op) = true := by decide +kernel
noncomputable def b42_0 : Code := (.seq (.seq (.region 3 r42_3 false) (.cond (.tmp 14) .skip (.exit 0))) (.seq (.block 1 (.seq (.region 5 r42_5 false) (.region 6 r42_6 false))) (.region 4 r42_4 false)))
noncomputable def r42_7 : Array Oper := opsAt Tryd.f42 [1, 1, 1, 0, 0]
theorem r42_7_ok : dstOk 39 r42_7.toList = true ∧ r42_7.toList.all (fun o => noDefer o.op) = true := by decide +kernel
noncomputable def r42_8 : Array Oper := opsAt Tryd.f42 [1, 1, 1, 0, 1, 0, 0, 0, 0]
theorem r42_8_ok : dstOk 39 r42_8.toList = true ∧ r42_8.toList.all (fun o => noDefer o.op) = true := by decide +kernel
noncomputable def r42_10 : Array Oper := opsAt Tryd.f42 [1, 1, 1, 0, 1, 0, 0, 1, 0, 0]
theorem r42_10_ok : dstOk 39 r42_10.toList = true ∧ r42_10.toList.all (fun o => noDefer o.op) = true := by decide +kernel
noncomputable def r42_9 : Array Oper := opsAt Tryd.f42 [1, 1, 1, 0, 1, 0, 0, 1, 1]
theorem r42_9_ok : dstOk 39 r42_9.toList = true ∧ r42_9.toList.all (fun o => noDefer o.op) = true := by decide +kernel
noncomputable def b42_1 : Code := (.seq (.seq (.region 8 r42_8 false) (.cond (.tmp 27) .skip (.exit 2))) (.seq (.block 3 (.region 10 r42_10 false)) (.region 9 r42_9 false)))
noncomputable def r42_11 : Array Oper := opsAt Tryd.f42 [1, 1, 1, 1, 0]
theorem r42_11_ok : dstOk 39 r42_11.toList = true ∧ r42_11.toList.all (fun o => noDefer o.op) = true := by decide +kernel
noncomputable def c42 : Code := (.seq (.region 0 r42_0 false) (.seq (.region 1 r42_1 false) (.seq (.seq (.region 2 r42_2 false) (.block 0 (.loop b42_0))) (.seq (.seq (.region 7 r42_7 false) (.block 2 (.loop b42_1))) (.seq (.region 11 r42_11 false) .ret)))))
theorem body42 : Tryd.f42.body = some c42 := by kernel_rfl
theorem lentStreets_ok (b : Bool) (l : List StreetR) (hl : l.length * 88 ≤ 140737488351232) (hcl : ∀ t ∈ l, t.texts.length * 16 ≤ 140737488351232) : PureCall Tryd.prog GL 42 [.sl 6 b (l.map streetAV)] (.slb 6 l.length (l.map streetLV ++ mks mkStreet 12)) := by
  refine pure_of_body Tryd.func42 body42 (Nat.le_of_ble_eq_true rfl) (pur1 (.sl (pu_streetA _))) (.slb (pu_app (pu_streetL _) (pu_streetM _))) ?_
  refine w_keep [(0, .sl 6 b (l.map streetAV))] ⟨rfl, trivial⟩ ?_
  unfold c42
  refine awp_seq ?_
  refine w_reg (l := r42_0.toList) rfl r42_0_ok ?_
  refine a_op rfl (o_as rfl) ?_
  refine a_nil ?_
  refine tq_n ?_
  refine awp_seq ?_
  refine w_reg (l := r42_1.toList) rfl r42_1_ok ?_
  refine a_op rfl (o_mv rfl) ?_
  refine a_op rfl (o_len rfl rfl (by first | exact List.length_map .. | rfl) tl26) ?_
  refine a_op rfl (o_add rfl rfl (by simp only [klo, khi]; omega)) ?_
  refine a_op rfl (o_ms tE26 rfl rfl (by decide) (by omega) (by omega) (by omega) rfl rfl) ?_
  refine a_op rfl (o_as rfl) ?_
  refine a_nil ?_
  refine tq_n ?_
  refine awp_seq ?_
  refine awp_seq ?_
  refine w_reg (l := r42_2.toList) rfl r42_2_ok ?_
  refine a_op rfl (o_as rfl) ?_
  refine a_nil ?_
  refine tq_n ?_
  refine awp_block ?_
  refine w_loop (fun i : Nat => i ≤ l.length) (fun i => [(0, .sl 6 b (l.map streetAV)), (3, .slo 0 (i) 0 (i)), (4, .raw (.int .i64 ((i : Nat) : Int)))]) (fun i => [.vec 6 i ((l.take i).map streetLV)]) (fun i => l.length - i) (0) (by omega) ⟨(by first | exact sub_int rfl (by omega) | rfl | exact sub_eq rfl (by simp)), (by first | exact sub_int rfl (by omega) | rfl | exact sub_eq rfl (by simp)), (by first | exact sub_int rfl (by omega) | rfl | exact sub_eq rfl (by simp)), trivial⟩ rfl ?_
  intro i hp1
  unfold b42_0
  refine awp_seq ?_
  refine awp_seq ?_
  refine w_reg (l := r42_3.toList) rfl r42_3_ok ?_
  refine a_op rfl (o_mv rfl) ?_
  refine a_op rfl (o_mv rfl) ?_
  refine a_op rfl (o_len rfl rfl (by first | exact List.length_map .. | rfl) tl26) ?_
  refine a_if rfl (o_lt rfl rfl) (fun h1 => ?_) (fun h2 => ?_)
  · refine a_nil ?_
    refine tq_n ?_
    refine w_true rfl ?_
    refine awp_skip ?_
    refine tq_n ?_
    refine awp_seq ?_
    refine awp_block ?_
    refine awp_seq ?_
    have hI : i < l.length := by omega
    refine w_reg (l := r42_5.toList) rfl r42_5_ok ?_
    refine a_op rfl (o_mv rfl) ?_
    refine a_op rfl (o_mv rfl) ?_
    refine a_op rfl (o_ix te26 tn117 rfl rfl rfl (ixm _ _ _ hI)) ?_
    refine a_op rfl ((by first | exact o_ldg tg117 tn117 rfl rfl | exact o_ldpg tg117 tn117 rfl rfl rfl rfl)) ?_
    refine a_pure rfl rfl rfl cb70 (lentStreet_ok _ (hcl _ (List.getElem_mem hI))) ?_
    refine a_op rfl (o_al (N := 1) tz117 rfl rfl rfl) ?_
    refine a_op0 rfl (o_st (N := 5) tn117 rfl rfl (by first | rfl | exact streetG (cel_lent _) _ | exact (cel_lent _).2 _ | exact streetG (cel_own _) _ | exact streetG cel_nilT _) rfl rfl) ?_
    refine a_nil ?_
    refine tq_n ?_
    refine w_reg (l := r42_6.toList) rfl r42_6_ok ?_
    refine a_op rfl (o_mv rfl) ?_
    refine a_op rfl ((by first | exact o_ldg tg117 tn117 rfl rfl | exact o_ldpg tg117 tn117 rfl rfl rfl rfl)) ?_
    refine a_op rfl (o_bs tE26 (by decide) rfl rfl rfl) ?_
    refine a_op rfl (o_ap tE26 rfl rfl (by simp; omega) rfl rfl (by exact List.all_eq_true.2 (by intro x hx; rw [List.mem_singleton.1 hx]; exact streetG (cel_lent _) _)) (by simp [mks]; omega) (by simp [mks]; omega) rfl rfl rfl rfl) ?_
    refine a_op rfl (o_as rfl) ?_
    refine a_nil ?_
    refine bq_n ?_
    refine tq_n ?_
    refine w_view [(0, .sl 6 b (l.map streetAV)), (3, .slo 0 (i + 1) 0 (i + 1)), (4, .raw (.int .i64 ((i : Nat) : Int)))] [.vec 6 (i + 1) ((l.take i).map streetLV ++ [streetLV (l[i]'hI)])] 1 rfl (Nat.le_of_ble_eq_true rfl) (Nat.le_of_ble_eq_true rfl) ⟨⟨_, rfl, rs_pur (.sl (pu_streetA _)) rfl⟩, ⟨_, rfl, .sloK (Nat.le_of_ble_eq_true rfl)⟩, ⟨_, rfl, rs_pur (by simp) rfl⟩, trivial⟩ ⟨ors_vec (pu_app (pu_streetL _) (pu_one (pur_streetV (cel_lent _)))), trivial⟩ ?_
    refine w_reg (l := r42_4.toList) rfl r42_4_ok ?_
    refine a_op rfl (o_mv rfl) ?_
    refine a_op rfl (o_add rfl rfl (by simp only [klo, khi]; omega)) ?_
    refine a_op rfl (o_as rfl) ?_
    refine a_nil ?_
    refine tq_n ?_
    exact ⟨i + 1, ⟨by omega, by omega⟩, ⟨(by first | exact sub_int rfl (by omega) | rfl | exact sub_eq rfl (by simp)), (by first | exact sub_int rfl (by omega) | rfl | exact sub_eq rfl (by simp)), (by first | exact sub_int rfl (by omega) | rfl | exact sub_eq rfl (by simp)), trivial⟩, by rw [List.take_succ_eq_append_getElem hI, List.map_append]; rfl⟩
  refine a_nil ?_
  refine tq_n ?_
  refine w_false rfl ?_
  refine awp_exit ?_
  refine tq_x ?_
  refine tq_x ?_
  refine bq_hit ?_
  refine tq_n ?_
  refine awp_seq ?_
  refine awp_seq ?_
  have hi : i = l.length := by omega
  subst hi
  refine w_reg (l := r42_7.toList) rfl r42_7_ok ?_
  refine a_op rfl (o_as rfl) ?_
  refine a_nil ?_
  refine tq_n ?_
  refine awp_block ?_
  refine w_loop (fun j : Nat => j ≤ 12) (fun j => [(0, .sl 6 b (l.map streetAV)), (3, .slo 0 (l.length + j) 0 (l.length + j)), (6, .raw (.int .i64 ((j : Nat) : Int)))]) (fun j => [.vec 6 (l.length + j) (l.map streetLV ++ mks mkStreet j)]) (fun j => 12 - j) (0) (by omega) ⟨(by first | exact sub_int rfl (by omega) | rfl | exact sub_eq rfl (by simp)), (by first | exact sub_int rfl (by omega) | rfl | exact sub_eq rfl (by simp)), (by first | exact sub_int rfl (by omega) | rfl | exact sub_eq rfl (by simp)), trivial⟩ (by simp [mks]) ?_
  intro j hj1
  unfold b42_1
  refine awp_seq ?_
  refine awp_seq ?_
  refine w_reg (l := r42_8.toList) rfl r42_8_ok ?_
  refine a_op rfl (o_mv rfl) ?_
  refine a_if rfl (o_lt rfl rfl) (fun h3 => ?_) (fun h4 => ?_)
  · refine a_nil ?_
    refine tq_n ?_
    refine w_true rfl ?_
    refine awp_skip ?_
    refine tq_n ?_
    refine awp_seq ?_
    refine awp_block ?_
    refine w_reg (l := r42_10.toList) rfl r42_10_ok ?_
    refine a_op rfl (o_mv rfl) ?_
    refine a_op rfl (o_mv rfl) ?_
    refine a_pure rfl rfl rfl cb71 (markStreet_ok _ (by omega) (by omega)) ?_
    refine a_op rfl (o_bs tE26 (by decide) rfl rfl rfl) ?_
    refine a_op rfl (o_ap tE26 rfl rfl (by simp [mks]) rfl rfl (by exact List.all_eq_true.2 (by intro x hx; rw [List.mem_singleton.1 hx]; exact streetG cel_nilT _)) (by simp [mks]; omega) (by simp [mks]; omega) rfl rfl rfl rfl) ?_
    refine a_op rfl (o_as rfl) ?_
    refine a_nil ?_
    refine bq_n ?_
    refine tq_n ?_
    refine w_reg (l := r42_9.toList) rfl r42_9_ok ?_
    refine a_op rfl (o_mv rfl) ?_
    refine a_op rfl (o_add rfl rfl (by simp only [klo, khi]; omega)) ?_
    refine a_op rfl (o_as rfl) ?_
    refine a_nil ?_
    refine tq_n ?_
    exact ⟨j + 1, ⟨by omega, by omega⟩, ⟨(by first | exact sub_int rfl (by omega) | rfl | exact sub_eq rfl (by simp)), (by first | exact sub_int rfl (by omega) | rfl | exact sub_eq rfl (by simp)), (by first | exact sub_int rfl (by omega) | rfl | exact sub_eq rfl (by simp)), trivial⟩, by rw [mks_succ, ← List.append_assoc]; rfl⟩
  refine a_nil ?_
  refine tq_n ?_
  refine w_false rfl ?_
  refine awp_exit ?_
  refine tq_x ?_
  refine tq_x ?_
  refine bq_hit ?_
  refine tq_n ?_
  refine awp_seq ?_
  refine w_reg (l := r42_11.toList) rfl r42_11_ok ?_
  refine a_op rfl (o_mv rfl) ?_
  refine a_op rfl (o_mv rfl) ?_
  refine a_op rfl (o_len rfl rfl (by first | exact List.length_map .. | rfl) tl26) ?_
  refine a_op rfl (o_slh te26 tn117 rfl rfl rfl rfl (by simp)) ?_
  refine a_op rfl (o_as rfl) ?_
  refine a_nil ?_
  refine tq_n ?_
  refine awp_ret ?_
  refine r_one rfl ⟨rfl, trivial⟩ ?_
  have hj : j = 12 := by omega
  subst hj
  exact rs_slob id rfl (by simp) (pu_app (pu_streetL _) (pu_streetM _)) rfl
noncomputable def r84_0 : Array Oper := opsAt Tryd.f84 [0]
theorem r84_0_ok : dstOk 45 r84_0.toList = true ∧ r84_0.toList.all (fun o => noDefer o.op) = true := by decide +kernel
noncomputable def r84_1 : Array Oper := opsAt Tryd.f84 [1, 0]
theorem r84_1_ok : dstOk 45 r84_1.toList = true ∧ r84_1.toList.all (fun o => noDefer o.op) = true := by decide +kernel
noncomputable def c84 : Code := (.seq (.region 0 r84_0 false) (.seq (.region 1 r84_1 false) .ret))
theorem body84 : Tryd.f84.body = some c84 := by kernel_rfl
theorem sameStreet_ok (t : StreetR) (A B : AV) (hA : Cel A) (hB : Cel B) (hs : PureCall Tryd.prog GL 106 [A, B] (.raw (.bool true))) : PureCall Tryd.prog GL 84 [streetV t A, streetV t B] (.raw (.bool true)) := by
  refine pure_of_body Tryd.func84 body84 (Nat.le_of_ble_eq_true rfl) (pur2 (pur_streetV hA) (pur_streetV hB)) (by simp) ?_
  refine w_keep [(0, streetV t A), (1, streetV t B)] ⟨rfl, rfl, trivial⟩ ?_
  unfold c84
  refine awp_seq ?_
  refine w_reg (l := r84_0.toList) rfl r84_0_ok ?_
  refine a_op rfl (o_box (N := 0) rfl (by first | exact streetG hA _ | exact streetG hB _) rfl rfl) ?_
  refine a_op rfl (o_box (N := 1) rfl (by first | exact streetG hA _ | exact streetG hB _) rfl rfl) ?_
  refine a_op rfl (o_as rfl) ?_
  refine a_nil ?_
  refine tq_n ?_
  refine awp_seq ?_
  refine w_reg (l := r84_1.toList) rfl r84_1_ok ?_
  refine a_op rfl ((by first | exact o_fa tf117_0 rfl rfl | exact o_fap tf117_0 rfl rfl)) ?_
  refine a_op rfl ((by first | exact o_ld tg3 rfl rfl | exact o_ldp tg3 rfl rfl rfl rfl)) ?_
  refine a_op rfl ((by first | exact o_fa tf117_0 rfl rfl | exact o_fap tf117_0 rfl rfl)) ?_
  refine a_op rfl ((by first | exact o_ld tg3 rfl rfl | exact o_ldp tg3 rfl rfl rfl rfl)) ?_
  refine a_if rfl (o_eq rfl rfl) (fun h1 => ?_) (fun h2 => ?_)
  · refine a_op rfl (o_mv rfl) ?_
    refine a_op rfl ((by first | exact o_fa tf117_1 rfl rfl | exact o_fap tf117_1 rfl rfl)) ?_
    refine a_op rfl ((by first | exact o_ld tg3 rfl rfl | exact o_ldp tg3 rfl rfl rfl rfl)) ?_
    refine a_op rfl ((by first | exact o_fa tf117_1 rfl rfl | exact o_fap tf117_1 rfl rfl)) ?_
    refine a_op rfl ((by first | exact o_ld tg3 rfl rfl | exact o_ldp tg3 rfl rfl rfl rfl)) ?_
    refine a_if rfl (o_eq rfl rfl) (fun h3 => ?_) (fun h4 => ?_)
    · refine a_op rfl (o_pkt rfl rfl) ?_
      refine a_op rfl (o_mv rfl) ?_
      refine a_op rfl ((by first | exact o_fa tf117_2 rfl rfl | exact o_fap tf117_2 rfl rfl)) ?_
      refine a_op rfl ((by first | exact o_ld tg9 rfl rfl | exact o_ldp tg9 rfl rfl rfl rfl)) ?_
      refine a_op rfl ((by first | exact o_fa tf117_2 rfl rfl | exact o_fap tf117_2 rfl rfl)) ?_
      refine a_op rfl ((by first | exact o_ld tg9 rfl rfl | exact o_ldp tg9 rfl rfl rfl rfl)) ?_
      refine a_ifb rfl (o_bin rfl rfl rfl) (fun h5 => ?_) (fun h6 => ?_)
      · refine a_op rfl (o_pkt rfl rfl) ?_
        refine a_op rfl (o_mv rfl) ?_
        refine a_op rfl ((by first | exact o_fa tf117_3 rfl rfl | exact o_fap tf117_3 rfl rfl)) ?_
        refine a_op rfl ((by first | exact o_ld tg9 rfl rfl | exact o_ldp tg9 rfl rfl rfl rfl)) ?_
        refine a_op rfl ((by first | exact o_fa tf117_3 rfl rfl | exact o_fap tf117_3 rfl rfl)) ?_
        refine a_op rfl ((by first | exact o_ld tg9 rfl rfl | exact o_ldp tg9 rfl rfl rfl rfl)) ?_
        refine a_ifb rfl (o_bin rfl rfl rfl) (fun h7 => ?_) (fun h8 => ?_)
        · refine a_op rfl (o_pkt rfl rfl) ?_
          refine a_op rfl (o_mv rfl) ?_
          refine a_op rfl ((by first | exact o_fa tf117_4 rfl rfl | exact o_fap tf117_4 rfl rfl)) ?_
          refine a_op rfl ((by first | exact o_ld tg9 rfl rfl | exact o_ldp tg9 rfl rfl rfl rfl)) ?_
          refine a_op rfl ((by first | exact o_fa tf117_4 rfl rfl | exact o_fap tf117_4 rfl rfl)) ?_
          refine a_op rfl ((by first | exact o_ld tg9 rfl rfl | exact o_ldp tg9 rfl rfl rfl rfl)) ?_
          refine a_ifb rfl (o_bin rfl rfl rfl) (fun h9 => ?_) (fun h10 => ?_)
          · refine a_op rfl (o_pkt rfl rfl) ?_
            refine a_op rfl (o_mv rfl) ?_
            refine a_op rfl ((by first | exact o_fa tf117_5 rfl rfl | exact o_fap tf117_5 rfl rfl)) ?_
            refine a_op rfl ((by first | exact o_ld tg111 rfl rfl | exact o_ldp tg111 rfl rfl rfl rfl)) ?_
            refine a_op rfl ((by first | exact o_fa tf117_5 rfl rfl | exact o_fap tf117_5 rfl rfl)) ?_
            refine a_op rfl ((by first | exact o_ld tg111 rfl rfl | exact o_ldp tg111 rfl rfl rfl rfl)) ?_
            refine a_pure rfl rfl rfl cb106 (hs) ?_
            refine a_op rfl (o_pkt rfl rfl) ?_
            refine a_op rfl (o_as rfl) ?_
            refine a_nil ?_
            refine tq_n ?_
            refine awp_ret ?_
            refine r_one rfl ⟨rfl, trivial⟩ ?_
            exact rs_pur (by simp) rfl
          simp at h10
        simp at h8
      simp at h6
    exact absurd rfl h4
  exact absurd rfl h2
theorem sameStreetL_ok (t : StreetR) (hc : t.texts.length * 16 ≤ 140737488351232) : PureCall Tryd.prog GL 84 [streetLV t, streetAV t] (.raw (.bool true)) := sameStreet_ok t _ _ (cel_lent _) (cel_own _) (sameTexts_ok false t.texts hc)
theorem sameStreetM_ok (i : Int) : PureCall Tryd.prog GL 84 [mkStreet i, mkStreet i] (.raw (.bool true)) := sameStreet_ok _ _ _ cel_nilT cel_nilT sameTexts_nil
noncomputable def r83_0 : Array Oper := opsAt Tryd.f83 [0]
theorem r83_0_ok : dstOk 15 r83_0.toList = true ∧ r83_0.toList.all (fun o => noDefer o.op) = true := by decide +kernel
noncomputable def r83_1 : Array Oper := opsAt Tryd.f83 [1, 0]
theorem r83_1_ok : dstOk 15 r83_1.toList = true ∧ r83_1.toList.all (fun o => noDefer o.op) = true := by decide +kernel
noncomputable def c83 : Code := (.seq (.region 0 r83_0 false) (.seq (.region 1 r83_1 false) .ret))
theorem body83 : Tryd.f83.body = some c83 := by kernel_rfl
theorem keptStreet_ok (t : StreetR) (hc : t.texts.length * 16 ≤ 140737488351232) : PureCall Tryd.prog GL 83 [streetLV t, streetAV t] (.raw (.bool true)) := by
  refine pure_of_body Tryd.func83 body83 (Nat.le_of_ble_eq_true rfl) (pur2 (pur_streetV (cel_lent _)) (pur_streetV (cel_own _))) (by simp) ?_
  refine w_keep [(0, streetLV t), (1, streetAV t)] ⟨rfl, rfl, trivial⟩ ?_
  unfold c83
  refine awp_seq ?_
  refine w_reg (l := r83_0.toList) rfl r83_0_ok ?_
  refine a_op rfl (o_box (N := 0) rfl (by first | exact streetG (cel_lent _) _ | exact streetG (cel_own _) _) rfl rfl) ?_
  refine a_op rfl (o_box (N := 1) rfl (by first | exact streetG (cel_lent _) _ | exact streetG (cel_own _) _) rfl rfl) ?_
  refine a_op rfl (o_as rfl) ?_
  refine a_nil ?_
  refine tq_n ?_
  refine awp_seq ?_
  refine w_reg (l := r83_1.toList) rfl r83_1_ok ?_
  refine a_op rfl ((by first | exact o_ldg tg117 tn117 rfl rfl | exact o_ldpg tg117 tn117 rfl rfl rfl rfl)) ?_
  refine a_op rfl ((by first | exact o_ldg tg117 tn117 rfl rfl | exact o_ldpg tg117 tn117 rfl rfl rfl rfl)) ?_
  refine a_pureb rfl rfl rfl cb84 (sameStreetL_ok _ hc) (fun h1 => ?_) (fun h2 => ?_)
  · refine a_op rfl (o_mv rfl) ?_
    refine a_op rfl ((by first | exact o_fa tf117_5 rfl rfl | exact o_fap tf117_5 rfl rfl)) ?_
    refine a_op rfl ((by first | exact o_ld tg111 rfl rfl | exact o_ldp tg111 rfl rfl rfl rfl)) ?_
    refine a_op rfl ((by first | exact o_fa tf117_5 rfl rfl | exact o_fap tf117_5 rfl rfl)) ?_
    refine a_op rfl ((by first | exact o_ld tg111 rfl rfl | exact o_ldp tg111 rfl rfl rfl rfl)) ?_
    refine a_pure rfl rfl rfl cb105 (keptTexts_ok _ _ hc) ?_
    refine a_op rfl (o_pkt rfl rfl) ?_
    refine a_op rfl (o_as rfl) ?_
    refine a_nil ?_
    refine tq_n ?_
    refine awp_ret ?_
    refine r_one rfl ⟨rfl, trivial⟩ ?_
    exact rs_pur (by simp) rfl
  cases h2
noncomputable def r78_0 : Array Oper := opsAt Tryd.f78 [0]
theorem r78_0_ok : dstOk 27 r78_0.toList = true ∧ r78_0.toList.all (fun o => noDefer o.op) = true := by decide +kernel
noncomputable def r78_1 : Array Oper := opsAt Tryd.f78 [1, 0, 0]
theorem r78_1_ok : dstOk 27 r78_1.toList = true ∧ r78_1.toList.all (fun o => noDefer o.op) = true := by decide +kernel
noncomputable def r78_2 : Array Oper := opsAt Tryd.f78 [1, 0, 1, 0, 0]
theorem r78_2_ok : dstOk 27 r78_2.toList = true ∧ r78_2.toList.all (fun o => noDefer o.op) = true := by decide +kernel
noncomputable def r78_3 : Array Oper := opsAt Tryd.f78 [1, 1, 0, 0]
theorem r78_3_ok : dstOk 27 r78_3.toList = true ∧ r78_3.toList.all (fun o => noDefer o.op) = true := by decide +kernel
noncomputable def r78_4 : Array Oper := opsAt Tryd.f78 [1, 1, 0, 1, 0, 0, 0, 0]
theorem r78_4_ok : dstOk 27 r78_4.toList = true ∧ r78_4.toList.all (fun o => noDefer o.op) = true := by decide +kernel
noncomputable def r78_6 : Array Oper := opsAt Tryd.f78 [1, 1, 0, 1, 0, 0, 1, 0, 0, 0]
theorem r78_6_ok : dstOk 27 r78_6.toList = true ∧ r78_6.toList.all (fun o => noDefer o.op) = true := by decide +kernel
noncomputable def r78_7 : Array Oper := opsAt Tryd.f78 [1, 1, 0, 1, 0, 0, 1, 0, 0, 1, 0, 0]
theorem r78_7_ok : dstOk 27 r78_7.toList = true ∧ r78_7.toList.all (fun o => noDefer o.op) = true := by decide +kernel
noncomputable def r78_5 : Array Oper := opsAt Tryd.f78 [1, 1, 0, 1, 0, 0, 1, 1]
theorem r78_5_ok : dstOk 27 r78_5.toList = true ∧ r78_5.toList.all (fun o => noDefer o.op) = true := by decide +kernel
noncomputable def b78_0 : Code := (.seq (.seq (.region 4 r78_4 false) (.cond (.tmp 14) .skip (.exit 0))) (.seq (.block 1 (.seq (.region 6 r78_6 true) (.cond (.tmp 26) (.seq (.region 7 r78_7 false) .ret) .skip))) (.region 5 r78_5 false)))
noncomputable def r78_8 : Array Oper := opsAt Tryd.f78 [1, 1, 1, 0]
theorem r78_8_ok : dstOk 27 r78_8.toList = true ∧ r78_8.toList.all (fun o => noDefer o.op) = true := by decide +kernel
noncomputable def c78 : Code := (.seq (.region 0 r78_0 false) (.seq (.seq (.region 1 r78_1 false) (.cond (.tmp 10) (.seq (.region 2 r78_2 false) .ret) .skip)) (.seq (.seq (.region 3 r78_3 false) (.block 0 (.loop b78_0))) (.seq (.region 8 r78_8 false) .ret))))
theorem body78 : Tryd.f78.body = some c78 := by kernel_rfl
theorem sameStreets_ok (b : Bool) (l : List StreetR) (hl : l.length * 88 ≤ 140737488351232) (hcl : ∀ t ∈ l, t.texts.length * 16 ≤ 140737488351232) : PureCall Tryd.prog GL 78 [.slb 6 l.length (l.map streetLV ++ mks mkStreet 12), .sl 6 b (l.map streetAV)] (.raw (.bool true)) := by
  refine pure_of_body Tryd.func78 body78 (Nat.le_of_ble_eq_true rfl) (pur2 (.slb (pu_app (pu_streetL _) (pu_streetM _))) (.sl (pu_streetA _))) (by simp) ?_
  refine w_keep [(0, .slb 6 l.length (l.map streetLV ++ mks mkStreet 12)), (1, .sl 6 b (l.map streetAV))] ⟨rfl, rfl, trivial⟩ ?_
  unfold c78
  refine awp_seq ?_
  refine w_reg (l := r78_0.toList) rfl r78_0_ok ?_
  refine a_op rfl (o_as rfl) ?_
  refine a_nil ?_
  refine tq_n ?_
  refine awp_seq ?_
  refine awp_seq ?_
  refine w_reg (l := r78_1.toList) rfl r78_1_ok ?_
  refine a_op rfl (o_mv rfl) ?_
  refine a_op rfl (o_len rfl rfl (by first | exact List.length_map .. | rfl) tl26) ?_
  refine a_op rfl (o_mv rfl) ?_
  refine a_op rfl (o_len rfl rfl (by first | exact List.length_map .. | rfl) tl26) ?_
  refine a_if rfl (o_ne rfl rfl) (fun h1 => ?_) (fun h2 => ?_)
  · omega
  refine a_nil ?_
  refine tq_n ?_
  refine w_false rfl ?_
  refine awp_skip ?_
  refine tq_n ?_
  refine awp_seq ?_
  refine awp_seq ?_
  refine w_reg (l := r78_3.toList) rfl r78_3_ok ?_
  refine a_op rfl (o_as rfl) ?_
  refine a_nil ?_
  refine tq_n ?_
  refine awp_block ?_
  refine w_loop (fun i : Nat => i ≤ l.length) (fun i => [(0, .slb 6 l.length (l.map streetLV ++ mks mkStreet 12)), (1, .sl 6 b (l.map streetAV)), (5, .raw (.int .i64 (i : Int)))]) (fun _ => []) (fun i => l.length - i) (0) (by omega) ⟨(by first | exact sub_int rfl (by omega) | rfl), (by first | exact sub_int rfl (by omega) | rfl), (by first | exact sub_int rfl (by omega) | rfl), trivial⟩ rfl ?_
  intro i hp1
  unfold b78_0
  refine awp_seq ?_
  refine awp_seq ?_
  refine w_reg (l := r78_4.toList) rfl r78_4_ok ?_
  refine a_op rfl (o_mv rfl) ?_
  refine a_op rfl (o_mv rfl) ?_
  refine a_op rfl (o_len rfl rfl (by first | exact List.length_map .. | rfl) tl26) ?_
  refine a_if rfl (o_lt rfl rfl) (fun h3 => ?_) (fun h4 => ?_)
  · refine a_nil ?_
    refine tq_n ?_
    refine w_true rfl ?_
    refine awp_skip ?_
    refine tq_n ?_
    refine awp_seq ?_
    refine awp_block ?_
    refine awp_seq ?_
    have hI : i < l.length := by omega
    have hct := hcl _ (List.getElem_mem hI)
    have hA := at_lo2 streetLV (m := mks mkStreet 12) hI
    refine awp_draw ⟨[[], [], [0, 1], [0, 1, 2], [], [], [4, 5], [4, 5, 6], [0, 1, 2, 3, 4, 5, 6, 7], [0, 1, 2, 3, 4, 5, 6, 7, 8]], [[0], [5], [17, 18], [19], [1], [5], [21, 22], [23], [20, 24], [25]], [[], [], [], [], [], [], [], [], [], []], [none, none, none, none, none, none, none, none, none, none]⟩ mo r78_6_ok (by decide +kernel) (l := r78_6.toList) rfl ?_
    refine d_op rfl rfl rfl (fun _ => o_mv rfl) ?_
    refine d_op rfl rfl rfl (fun _ => o_mv rfl) ?_
    refine d_op rfl rfl rfl (fun _ => o_ixb te26 tn117 rfl rfl nofun rfl hA hI) ?_
    refine d_op rfl rfl rfl (fun _ => (by first | exact o_ldg tg117 tn117 rfl rfl | exact o_ldpg tg117 tn117 rfl rfl rfl rfl)) ?_
    refine d_op rfl rfl rfl (fun _ => o_mv rfl) ?_
    refine d_op rfl rfl rfl (fun _ => o_mv rfl) ?_
    refine d_op rfl rfl rfl (fun _ => o_ix te26 tn117 rfl rfl rfl (ixm _ _ _ hI)) ?_
    refine d_op rfl rfl rfl (fun _ => (by first | exact o_ldg tg117 tn117 rfl rfl | exact o_ldpg tg117 tn117 rfl rfl rfl rfl)) ?_
    refine d_pureb rfl rfl rfl rfl cb84 (sameStreetL_ok _ hct) (fun h5 => ?_) (fun h6 => ?_)
    · refine d_op rfl rfl rfl (fun _ => o_ntt rfl) ?_
      refine d_nil ?_
      refine tq_n ?_
      refine w_false rfl ?_
      refine awp_skip ?_
      refine bq_n ?_
      refine tq_n ?_
      refine w_reg (l := r78_5.toList) rfl r78_5_ok ?_
      refine a_op rfl (o_mv rfl) ?_
      refine a_op rfl (o_add rfl rfl (by simp only [klo, khi]; omega)) ?_
      refine a_op rfl (o_as rfl) ?_
      refine a_nil ?_
      refine tq_n ?_
      exact ⟨i + 1, ⟨by omega, by omega⟩, ⟨(by first | exact sub_int rfl (by omega) | rfl), (by first | exact sub_int rfl (by omega) | rfl), (by first | exact sub_int rfl (by omega) | rfl), trivial⟩, rfl⟩
    cases h6
  refine a_nil ?_
  refine tq_n ?_
  refine w_false rfl ?_
  refine awp_exit ?_
  refine tq_x ?_
  refine tq_x ?_
  refine bq_hit ?_
  refine tq_n ?_
  refine awp_seq ?_
  refine w_reg (l := r78_8.toList) rfl r78_8_ok ?_
  refine a_op rfl (o_as rfl) ?_
  refine a_nil ?_
  refine tq_n ?_
  refine awp_ret ?_
  refine r_one rfl ⟨rfl, trivial⟩ ?_
  exact rs_pur (by simp) rfl
noncomputable def r51_0 : Array Oper := opsAt Tryd.f51 [0]
theorem r51_0_ok : dstOk 58 r51_0.toList = true ∧ r51_0.toList.all (fun o => noDefer o.op) = true := by decide +kernel
noncomputable def r51_1 : Array Oper := opsAt Tryd.f51 [1, 0, 0]
theorem r51_1_ok : dstOk 58 r51_1.toList = true ∧ r51_1.toList.all (fun o => noDefer o.op) = true := by decide +kernel
noncomputable def r51_2 : Array Oper := opsAt Tryd.f51 [1, 0, 1, 0, 0]
theorem r51_2_ok : dstOk 58 r51_2.toList = true ∧ r51_2.toList.all (fun o => noDefer o.op) = true := by decide +kernel
noncomputable def r51_3 : Array Oper := opsAt Tryd.f51 [1, 1, 0]
theorem r51_3_ok : dstOk 58 r51_3.toList = true ∧ r51_3.toList.all (fun o => noDefer o.op) = true := by decide +kernel
noncomputable def r51_4 : Array Oper := opsAt Tryd.f51 [1, 1, 1, 0, 0]
theorem r51_4_ok : dstOk 58 r51_4.toList = true ∧ r51_4.toList.all (fun o => noDefer o.op) = true := by decide +kernel
noncomputable def r51_5 : Array Oper := opsAt Tryd.f51 [1, 1, 1, 0, 1, 0, 0, 0, 0]
theorem r51_5_ok : dstOk 58 r51_5.toList = true ∧ r51_5.toList.all (fun o => noDefer o.op) = true := by decide +kernel
noncomputable def r51_7 : Array Oper := opsAt Tryd.f51 [1, 1, 1, 0, 1, 0, 0, 1, 0, 0, 0]
theorem r51_7_ok : dstOk 58 r51_7.toList = true ∧ r51_7.toList.all (fun o => noDefer o.op) = true := by decide +kernel
noncomputable def r51_8 : Array Oper := opsAt Tryd.f51 [1, 1, 1, 0, 1, 0, 0, 1, 0, 0, 1, 0, 0]
theorem r51_8_ok : dstOk 58 r51_8.toList = true ∧ r51_8.toList.all (fun o => noDefer o.op) = true := by decide +kernel
noncomputable def r51_6 : Array Oper := opsAt Tryd.f51 [1, 1, 1, 0, 1, 0, 0, 1, 1]
theorem r51_6_ok : dstOk 58 r51_6.toList = true ∧ r51_6.toList.all (fun o => noDefer o.op) = true := by decide +kernel
noncomputable def b51_0 : Code := (.seq (.seq (.region 5 r51_5 false) (.cond (.tmp 20) .skip (.exit 0))) (.seq (.block 1 (.seq (.region 7 r51_7 true) (.cond (.tmp 57) (.seq (.region 8 r51_8 false) .ret) .skip))) (.region 6 r51_6 false)))
noncomputable def r51_9 : Array Oper := opsAt Tryd.f51 [1, 1, 1, 1, 0]
theorem r51_9_ok : dstOk 58 r51_9.toList = true ∧ r51_9.toList.all (fun o => noDefer o.op) = true := by decide +kernel
noncomputable def c51 : Code := (.seq (.region 0 r51_0 false) (.seq (.seq (.region 1 r51_1 false) (.cond (.tmp 11) (.seq (.region 2 r51_2 false) .ret) .skip)) (.seq (.region 3 r51_3 false) (.seq (.seq (.region 4 r51_4 false) (.block 0 (.loop b51_0))) (.seq (.region 9 r51_9 false) .ret)))))
theorem body51 : Tryd.f51.body = some c51 := by kernel_rfl
theorem keptStreets_ok (b : Bool) (l : List StreetR) (hl : l.length * 88 ≤ 140737488351232) (hcl : ∀ t ∈ l, t.texts.length * 16 ≤ 140737488351232) : PureCall Tryd.prog GL 51 [.slb 6 l.length (l.map streetLV ++ mks mkStreet 12), .sl 6 b (l.map streetAV)] (.raw (.bool true)) := by
  refine pure_of_body Tryd.func51 body51 (Nat.le_of_ble_eq_true rfl) (pur2 (.slb (pu_app (pu_streetL _) (pu_streetM _))) (.sl (pu_streetA _))) (by simp) ?_
  refine w_keep [(0, .slb 6 l.length (l.map streetLV ++ mks mkStreet 12)), (1, .sl 6 b (l.map streetAV))] ⟨rfl, rfl, trivial⟩ ?_
  unfold c51
  have hlen : (l.map streetLV ++ mks mkStreet 12).length = l.length + 12 := by simp [mks]
  refine awp_seq ?_
  refine w_reg (l := r51_0.toList) rfl r51_0_ok ?_
  refine a_op rfl (o_as rfl) ?_
  refine a_nil ?_
  refine tq_n ?_
  refine awp_seq ?_
  refine awp_seq ?_
  refine w_reg (l := r51_1.toList) rfl r51_1_ok ?_
  refine a_op rfl (o_mv rfl) ?_
  refine a_op rfl (o_len rfl rfl (by first | exact List.length_map .. | rfl) tl26) ?_
  refine a_op rfl (o_mv rfl) ?_
  refine a_op rfl (o_len rfl rfl (by first | exact List.length_map .. | rfl) tl26) ?_
  refine a_if rfl (o_ne rfl rfl) (fun h1 => ?_) (fun h2 => ?_)
  · omega
  refine a_nil ?_
  refine tq_n ?_
  refine w_false rfl ?_
  refine awp_skip ?_
  refine tq_n ?_
  refine awp_seq ?_
  refine w_reg (l := r51_3.toList) rfl r51_3_ok ?_
  refine a_op rfl (o_mv rfl) ?_
  refine a_op rfl (o_mv rfl) ?_
  refine a_op rfl (o_len rfl rfl (by first | exact List.length_map .. | rfl) tl26) ?_
  refine a_op rfl (o_add rfl rfl (by simp only [klo, khi]; omega)) ?_
  refine a_op rfl (o_slb (m := l.length + 12) te26 tn117 rfl rfl (by omega) (by simp [mks])) ?_
  refine a_op rfl (o_as rfl) ?_
  refine a_nil ?_
  refine tq_n ?_
  refine awp_seq ?_
  refine awp_seq ?_
  refine w_reg (l := r51_4.toList) rfl r51_4_ok ?_
  refine a_op rfl (o_as rfl) ?_
  refine a_nil ?_
  refine tq_n ?_
  refine awp_block ?_
  refine w_loop (fun i : Nat => i ≤ l.length + 12) (fun i => [(0, .slb 6 l.length (l.map streetLV ++ mks mkStreet 12)), (1, .sl 6 b (l.map streetAV)), (5, .sl 6 false (l.map streetLV ++ mks mkStreet 12)), (6, .raw (.int .i64 (i : Int)))]) (fun _ => []) (fun i => l.length + 12 - i) (0) (by omega) ⟨(by first | exact sub_int rfl (by omega) | rfl | exact sub_eq rfl (by rw [List.take_of_length_le (by simp [mks])])), (by first | exact sub_int rfl (by omega) | rfl | exact sub_eq rfl (by rw [List.take_of_length_le (by simp [mks])])), (by first | exact sub_int rfl (by omega) | rfl | exact sub_eq rfl (by rw [List.take_of_length_le (by simp [mks])])), (by first | exact sub_int rfl (by omega) | rfl | exact sub_eq rfl (by rw [List.take_of_length_le (by simp [mks])])), trivial⟩ rfl ?_
  intro i hp1
  unfold b51_0
  refine awp_seq ?_
  refine awp_seq ?_
  refine w_reg (l := r51_5.toList) rfl r51_5_ok ?_
  refine a_op rfl (o_mv rfl) ?_
  refine a_op rfl (o_mv rfl) ?_
  refine a_op rfl (o_len rfl rfl (by first | exact List.length_map .. | rfl) tl26) ?_
  refine a_if rfl (o_lt rfl rfl) (fun h3 => ?_) (fun h4 => ?_)
  · refine a_nil ?_
    refine tq_n ?_
    refine w_true rfl ?_
    refine awp_skip ?_
    refine tq_n ?_
    refine awp_seq ?_
    refine awp_block ?_
    refine awp_seq ?_
    refine awp_draw ⟨[[], [], [1], [0, 1, 2], [0, 1, 2, 3], [0, 1, 2, 3, 4], [0, 1, 2, 3, 4], [0, 1, 2, 3, 4, 5, 6], [0, 1, 2, 3, 4, 5, 6, 7], [0, 1, 2, 3, 4], [0, 1, 2, 3, 4], [0, 1, 2, 3, 4, 9, 10], [0, 1, 2, 3, 4, 9, 10, 11], [0, 1, 2, 3, 4, 5, 6, 7, 8, 9, 10, 11, 12], [0, 1, 2, 3, 4, 5, 6, 7, 8, 9, 10, 11, 12, 13], [0, 1, 2, 3, 4, 5, 6, 7, 8, 9, 10, 11, 12, 13, 14], [0, 1, 2, 3, 4, 5, 6, 7, 8, 9, 10, 11, 12, 13, 14, 15], [0, 1, 2, 3, 4, 5, 6, 7, 8, 9, 10, 11, 12, 13, 14, 15, 16], [0, 1, 2, 3, 4, 5, 6, 7, 8, 9, 10, 11, 12, 13, 14, 15, 16], [0, 1, 2, 3, 4, 5, 6, 7, 8, 9, 10, 11, 12, 13, 14, 15, 16, 18], [0, 1, 2, 3, 4, 5, 6, 7, 8, 9, 10, 11, 12, 13, 14, 15, 16, 17, 18, 19], [0, 1, 2, 3, 4, 5, 6, 7, 8, 9, 10, 11, 12, 13, 14, 15, 16, 17, 18, 19, 20], [0, 1, 2, 3, 4, 5, 6, 7, 8, 9, 10, 11, 12, 13, 14, 15, 16, 17, 18, 19, 20, 21], [0, 1, 2, 3, 4, 5, 6, 7, 8, 9, 10, 11, 12, 13, 14, 15, 16, 17, 18, 19, 20, 21], [0, 1, 2, 3, 4, 5, 6, 7, 8, 9, 10, 11, 12, 13, 14, 15, 16, 17, 18, 19, 20, 21, 22, 23], [0, 1, 2, 3, 4, 5, 6, 7, 8, 9, 10, 11, 12, 13, 14, 15, 16, 17, 18, 19, 20, 21, 22, 23, 24], [0, 1, 2, 3, 4, 5, 6, 7, 8, 9, 10, 11, 12, 13, 14, 15, 16, 17, 18, 19, 20, 21], [0, 1, 2, 3, 4, 5, 6, 7, 8, 9, 10, 11, 12, 13, 14, 15, 16, 17, 18, 19, 20, 21], [0, 1, 2, 3, 4, 5, 6, 7, 8, 9, 10, 11, 12, 13, 14, 15, 16, 17, 18, 19, 20, 21, 27], [0, 1, 2, 3, 4, 5, 6, 7, 8, 9, 10, 11, 12, 13, 14, 15, 16, 17, 18, 19, 20, 21, 26, 27, 28], [0, 1, 2, 3, 4, 5, 6, 7, 8, 9, 10, 11, 12, 13, 14, 15, 16, 17, 18, 19, 20, 21, 26, 27, 28, 29], [0, 1, 2, 3, 4, 5, 6, 7, 8, 9, 10, 11, 12, 13, 14, 15, 16, 17, 18, 19, 20, 21, 22, 23, 24, 25, 26, 27, 28, 29, 30], [0, 1, 2, 3, 4, 5, 6, 7, 8, 9, 10, 11, 12, 13, 14, 15, 16, 17, 18, 19, 20, 21, 22, 23, 24, 25, 26, 27, 28, 29, 30, 31], [0, 1, 2, 3, 4, 5, 6, 7, 8, 9, 10, 11, 12, 13, 14, 15, 16, 17, 18, 19, 20, 21, 22, 23, 24, 25, 26, 27, 28, 29, 30, 31, 32], [0, 1, 2, 3, 4, 5, 6, 7, 8, 9, 10, 11, 12, 13, 14, 15, 16, 17, 18, 19, 20, 21, 22, 23, 24, 25, 26, 27, 28, 29, 30, 31, 32, 33]], [[6], [1], [24], [23, 25], [26], [5, 27], [6, 27], [27, 28, 29], [27, 30], [1, 27], [6, 27], [27, 32, 33], [27, 34], [27, 31, 35], [27, 36], [27, 37], [38], [6, 39], [1, 39], [39, 41], [39, 40, 42], [39, 43], [5, 44], [6, 44], [44, 45, 46], [44, 47], [6, 44], [1, 44], [44, 50], [44, 49, 51], [44, 52], [44, 48, 53], [44, 54], [39, 44, 55], [39, 56]], [[], [], [], [], [], [], [], [], [], [], [], [], [], [], [], [], [], [], [], [], [], [], [], [], [], [], [], [], [], [], [], [], [], [], []], [none, none, none, none, none, none, none, none, none, none, none, none, none, none, none, none, none, none, none, none, none, none, none, none, none, none, none, none, none, none, none, none, none, none, none]⟩ mo r51_7_ok (by decide +kernel) (l := r51_7.toList) rfl ?_
    refine d_op rfl rfl rfl (fun _ => o_mv rfl) ?_
    refine d_op rfl rfl rfl (fun _ => o_mv rfl) ?_
    refine d_op rfl rfl rfl (fun _ => o_len rfl rfl (by first | exact List.length_map .. | rfl) tl26) ?_
    refine d_if rfl rfl rfl (fun _ => o_lt rfl rfl) (fun h5 => ?_) (fun h6 => ?_)
    · have hI : i < l.length := by omega
      have hct := hcl _ (List.getElem_mem hI)
      have hA := at_lo2 streetLV (m := mks mkStreet 12) hI
      refine d_op rfl rfl rfl (fun _ => o_mv rfl) ?_
      refine d_op rfl rfl rfl (fun _ => o_mv rfl) ?_
      refine d_op rfl rfl rfl (fun _ => o_mv rfl) ?_
      refine d_op rfl rfl rfl (fun _ => o_ix te26 tn117 rfl rfl rfl hA) ?_
      refine d_op rfl rfl rfl (fun _ => (by first | exact o_ldg tg117 tn117 rfl rfl | exact o_ldpg tg117 tn117 rfl rfl rfl rfl)) ?_
      refine d_op rfl rfl rfl (fun _ => o_mv rfl) ?_
      refine d_op rfl rfl rfl (fun _ => o_mv rfl) ?_
      refine d_op rfl rfl rfl (fun _ => o_ix te26 tn117 rfl rfl rfl (ixm _ _ _ hI)) ?_
      refine d_op rfl rfl rfl (fun _ => (by first | exact o_ldg tg117 tn117 rfl rfl | exact o_ldpg tg117 tn117 rfl rfl rfl rfl)) ?_
      refine d_pureb rfl rfl rfl rfl cb83 (keptStreet_ok _ hct) (fun h7 => ?_) (fun h8 => ?_)
      · refine d_op rfl rfl rfl (fun _ => o_ntt rfl) ?_
        refine d_op rfl rfl rfl (fun _ => o_pkt rfl rfl) ?_
        refine d_op rfl rfl rfl (fun _ => o_mv rfl) ?_
        refine d_op rfl rfl rfl (fun _ => o_mv rfl) ?_
        refine d_op rfl rfl rfl (fun _ => o_mv rfl) ?_
        refine d_op rfl rfl rfl (fun _ => o_len rfl rfl (by first | exact List.length_map .. | rfl) tl26) ?_
        refine d_if rfl rfl rfl (fun _ => o_ge rfl rfl) (fun h9 => ?_) (fun h10 => ?_)
        · omega
        refine d_op rfl rfl rfl (fun _ => o_mv rfl) ?_
        refine d_off rfl rfl ?_
        refine d_off rfl rfl ?_
        refine d_off rfl rfl ?_
        refine d_off rfl rfl ?_
        refine d_off rfl rfl ?_
        refine d_off rfl rfl ?_
        refine d_off rfl rfl ?_
        refine d_off rfl rfl ?_
        refine d_off rfl rfl ?_
        refine d_off rfl rfl ?_
        refine d_off rfl rfl ?_
        refine d_op rfl rfl rfl (fun _ => o_pkf rfl rfl) ?_
        refine d_op rfl rfl rfl (fun _ => o_pkf rfl rfl) ?_
        refine d_nil ?_
        refine tq_n ?_
        refine w_false rfl ?_
        refine awp_skip ?_
        refine bq_n ?_
        refine tq_n ?_
        refine w_reg (l := r51_6.toList) rfl r51_6_ok ?_
        refine a_op rfl (o_mv rfl) ?_
        refine a_op rfl (o_add rfl rfl (by simp only [klo, khi]; omega)) ?_
        refine a_op rfl (o_as rfl) ?_
        refine a_nil ?_
        refine tq_n ?_
        exact ⟨i + 1, ⟨by omega, by omega⟩, ⟨(by first | exact sub_int rfl (by omega) | rfl | exact sub_eq rfl (by rw [List.take_of_length_le (by simp [mks])])), (by first | exact sub_int rfl (by omega) | rfl | exact sub_eq rfl (by rw [List.take_of_length_le (by simp [mks])])), (by first | exact sub_int rfl (by omega) | rfl | exact sub_eq rfl (by rw [List.take_of_length_le (by simp [mks])])), (by first | exact sub_int rfl (by omega) | rfl | exact sub_eq rfl (by rw [List.take_of_length_le (by simp [mks])])), trivial⟩, rfl⟩
      cases h8
    refine d_op rfl rfl rfl (fun _ => o_mv rfl) ?_
    refine d_off rfl rfl ?_
    refine d_off rfl rfl ?_
    refine d_off rfl rfl ?_
    refine d_off rfl rfl ?_
    refine d_off rfl rfl ?_
    refine d_off rfl rfl ?_
    refine d_off rfl rfl ?_
    refine d_off rfl rfl ?_
    refine d_off rfl rfl ?_
    refine d_off rfl rfl ?_
    refine d_op rfl rfl rfl (fun _ => o_pkf rfl rfl) ?_
    refine d_op rfl rfl rfl (fun _ => o_mv rfl) ?_
    refine d_op rfl rfl rfl (fun _ => o_mv rfl) ?_
    refine d_op rfl rfl rfl (fun _ => o_mv rfl) ?_
    refine d_op rfl rfl rfl (fun _ => o_len rfl rfl (by first | exact List.length_map .. | rfl) tl26) ?_
    refine d_if rfl rfl rfl (fun _ => o_ge rfl rfl) (fun h11 => ?_) (fun h12 => ?_)
    · have hB := at_hi2 streetLV mkStreet (l := l) (i := i) (n := 12) (by omega) (by omega)
      have hk0 : 0 ≤ (i : Int) - (l.length : Int) := by omega
      have hk1 : (i : Int) - (l.length : Int) < 12 := by omega
      refine d_op rfl rfl rfl (fun _ => o_mv rfl) ?_
      refine d_op rfl rfl rfl (fun _ => o_mv rfl) ?_
      refine d_op rfl rfl rfl (fun _ => o_mv rfl) ?_
      refine d_op rfl rfl rfl (fun _ => o_ix te26 tn117 rfl rfl rfl hB) ?_
      refine d_op rfl rfl rfl (fun _ => (by first | exact o_ldg tg117 tn117 rfl rfl | exact o_ldpg tg117 tn117 rfl rfl rfl rfl)) ?_
      refine d_op rfl rfl rfl (fun _ => o_mv rfl) ?_
      refine d_op rfl rfl rfl (fun _ => o_mv rfl) ?_
      refine d_op rfl rfl rfl (fun _ => o_len rfl rfl (by first | exact List.length_map .. | rfl) tl26) ?_
      refine d_op rfl rfl rfl (fun _ => o_sub rfl rfl (by simp only [klo, khi]; omega)) ?_
      refine d_pure rfl rfl rfl rfl cb71 (markStreet_ok _ hk0 hk1) ?_
      refine d_pureb rfl rfl rfl rfl cb84 (sameStreetM_ok _) (fun h13 => ?_) (fun h14 => ?_)
      · refine d_op rfl rfl rfl (fun _ => o_ntt rfl) ?_
        refine d_op rfl rfl rfl (fun _ => o_pkt rfl rfl) ?_
        refine d_op rfl rfl rfl (fun _ => o_pkf rfl rfl) ?_
        refine d_nil ?_
        refine tq_n ?_
        refine w_false rfl ?_
        refine awp_skip ?_
        refine bq_n ?_
        refine tq_n ?_
        refine w_reg (l := r51_6.toList) rfl r51_6_ok ?_
        refine a_op rfl (o_mv rfl) ?_
        refine a_op rfl (o_add rfl rfl (by simp only [klo, khi]; omega)) ?_
        refine a_op rfl (o_as rfl) ?_
        refine a_nil ?_
        refine tq_n ?_
        exact ⟨i + 1, ⟨by omega, by omega⟩, ⟨(by first | exact sub_int rfl (by omega) | rfl | exact sub_eq rfl (by rw [List.take_of_length_le (by simp [mks])])), (by first | exact sub_int rfl (by omega) | rfl | exact sub_eq rfl (by rw [List.take_of_length_le (by simp [mks])])), (by first | exact sub_int rfl (by omega) | rfl | exact sub_eq rfl (by rw [List.take_of_length_le (by simp [mks])])), (by first | exact sub_int rfl (by omega) | rfl | exact sub_eq rfl (by rw [List.take_of_length_le (by simp [mks])])), trivial⟩, rfl⟩
      cases h14
    omega
  refine a_nil ?_
  refine tq_n ?_
  refine w_false rfl ?_
  refine awp_exit ?_
  refine tq_x ?_
  refine tq_x ?_
  refine bq_hit ?_
  refine tq_n ?_
  refine awp_seq ?_
  refine w_reg (l := r51_9.toList) rfl r51_9_ok ?_
  refine a_op rfl (o_as rfl) ?_
  refine a_nil ?_
  refine tq_n ?_
  refine awp_ret ?_
  refine r_one rfl ⟨rfl, trivial⟩ ?_
  exact rs_pur (by simp) rfl
end Go.Ab.D
