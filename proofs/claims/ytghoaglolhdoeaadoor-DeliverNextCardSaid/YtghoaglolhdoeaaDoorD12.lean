/- What functions of this program compute, and the laws of what they compute, under the bounds on lengths that each contract states. -/
import Derived.Test.YtghoaglolhdoeaaDoorD8
namespace Go.Ab.D
open Go Go.Ab Go.Proofs
theorem nxt_spec (f : Int → Bool) : ∀ (n : Nat) (d : Int), ((nxt f n d).2 = true → d ≤ (nxt f n d).1 ∧ (nxt f n d).1 < d + n ∧ f (nxt f n d).1 = true ∧ ∀ k, d ≤ k → k < (nxt f n d).1 → f k = false) ∧
    ((nxt f n d).2 = false → (nxt f n d).1 = 0 ∧ ∀ k, d ≤ k → k < d + n → f k = false)
  | 0, d => by simp only [nxt]; exact ⟨fun h => (by cases h), fun _ => ⟨trivial, fun k h1 h2 => by omega⟩⟩
  | n + 1, d => by
    have ih := nxt_spec f n (d + 1)
    by_cases h : f d = true
    · simp only [nxt, h, if_true]
      exact ⟨fun _ => ⟨by omega, by omega, trivial, fun k h1 h2 => by omega⟩, fun h => (by cases h)⟩
    · simp only [nxt, if_neg h]
      have h' : f d = false := by simpa using h
      refine ⟨fun h2 => ?_, fun h2 => ?_⟩
      · obtain ⟨a, b, c, e⟩ := ih.1 h2
        refine ⟨by omega, by omega, c, fun k h3 h4 => ?_⟩
        rcases Int.lt_or_le k (d + 1) with h5 | h5
        · rw [show k = d by omega]; exact h'
        · exact e k h5 h4
      · obtain ⟨a, e⟩ := ih.2 h2
        refine ⟨a, fun k h3 h4 => ?_⟩
        rcases Int.lt_or_le k (d + 1) with h5 | h5
        · rw [show k = d by omega]; exact h'
        · exact e k h5 (by omega)
theorem wr_of {hol : List Int} {d k : Int} (h : wrF hol d = 0) (h0 : 0 ≤ k) (h1 : k ≤ 730484) : wrF hol k = 0 := by
  have hr : rightF hol = true := by
    cases hr : rightF hol with
    | true => rfl
    | false => simp [wrF, hr] at h
  simp [wrF, hr, h0]; omega
theorem next_law (R : List RuleR) (hol : List Int) (n d : Int) (hw : wrF hol d = 0) (h0 : 0 ≤ d) (h1 : d ≤ 2000) :
    ((nxV (sixL 6) R hol n d).2 = true → d ≤ (nxV (sixL 6) R hol n d).1 ∧ (nxV (sixL 6) R hol n d).1 ≤ d + 800 ∧ lstat (sixL 6) R hol n (nxV (sixL 6) R hol n d).1 = 1 ∧ ∀ k, d ≤ k → k ≤ (nxV (sixL 6) R hol n d).1 - 1 → lstat (sixL 6) R hol n k ≠ 1) ∧
    ((nxV (sixL 6) R hol n d).2 = false → (nxV (sixL 6) R hol n d).1 = 0 ∧ ∀ k, d ≤ k → k ≤ d + 800 → lstat (sixL 6) R hol n k ≠ 1) := by
  have hls : ∀ k, d ≤ k → k ≤ d + 800 → (lstat (sixL 6) R hol n k = 1 ↔ (findP (sixL 6) n).isSome = true ∧ decide (statF ((findP (sixL 6) n).getD zeroPt) R hol k = 1) = true) := fun k h2 h3 => by
    have hwk := wr_of hw (k := k) (by omega) (by omega)
    unfold lstat stV
    rw [if_neg (by omega), if_neg (by omega)]
    by_cases hs : (findP (sixL 6) n).isSome = true
    · rw [if_pos hs]; simp [hs]
    · rw [if_neg hs]; simp [hs]
  have hN : nxN d = 801 := by unfold nxN; omega
  unfold nxV
  rw [if_neg (by omega)]
  by_cases hs : (findP (sixL 6) n).isSome = true
  · rw [if_pos hs, hN]
    have hsp := nxt_spec (fun d => decide (statF ((findP (sixL 6) n).getD zeroPt) R hol d = 1)) 801 d
    refine ⟨fun h => ?_, fun h => ?_⟩
    · obtain ⟨a, b, c, e⟩ := hsp.1 h
      refine ⟨a, by omega, (hls _ a (by omega)).2 ⟨hs, c⟩, fun k h2 h3 hk => ?_⟩
      have := e k h2 (by omega)
      have h4 := ((hls k h2 (by omega)).1 hk).2
      rw [this] at h4; cases h4
    · obtain ⟨a, e⟩ := hsp.2 h
      refine ⟨a, fun k h2 h3 hk => ?_⟩
      have := e k h2 (by omega)
      have h4 := ((hls k h2 (by omega)).1 hk).2
      rw [this] at h4; cases h4
  · rw [if_neg hs]
    refine ⟨fun h => (by cases h), fun _ => ⟨rfl, fun k h2 h3 hk => hs ((hls k h2 h3).1 hk).1⟩⟩
theorem six_pw : ((sixL 6).map (·.id)).Pairwise (· < ·) := by decide +kernel
theorem open6_ok (b : Bool) (R : List RuleR) (hl1 : R.length ≤ 4611686018427387904) (hx1 : ∀ x ∈ R, x.ok) (hol : List Int) (hl2 : hol.length ≤ 4611686018427387904) (d : Int) (hw : wrF hol d = 0) :
    PureCall Tryd.prog GL 18 [refAV nilS nilS nilS false (sixL 6), .sl 5 false (R.map ruleAV), .sl 1 false (hol.map intAV), .raw (.int .i64 d)] (.tup [.sl 1 false ((opF (sixL 6) R hol d).map intAV), .raw (.int .i64 0)]) := by
  have := Open_ok nilS nilS nilS cel_nilS cel_nilS cel_nilS false (sixL 6) (by simp [sixL_len]) false R hl1 hx1 false hol hl2 d (by simp [sixL_len]) six_pw
  rw [hw, opAV, if_neg (by omega)] at this
  exact this
theorem same_true (xs : List Int) (h : xs.length ≤ 4611686018427387904) : PureCall Tryd.prog GL 19 [.sl 1 false (xs.map intAV), .sl 1 false (xs.map intAV)] (.raw (.bool true)) := by
  have := sameInts_ok false xs h false xs h
  rw [show decide (xs = xs) = true by simp] at this
  exact this
theorem opL_six {R : List RuleR} {hol : List Int} {d : Int} {i : Nat} (h : i < (sixL 6).length) (hw : wrF hol d = 0) :
    opL (sixL 6) R hol d (i + 1) = opL (sixL 6) R hol d i ++ if lstat (sixL 6) R hol (sixL 6)[i].id d = 1 then [(sixL 6)[i].id] else [] := by
  rw [opL_succ h, lstat_eq hw (six_find h).1, (six_find h).1]; rfl
theorem opL_end (R : List RuleR) (hol : List Int) (d : Int) {k : Nat} (h : (sixL 6).length ≤ k) : opL (sixL 6) R hol d k = opF (sixL 6) R hol d := by
  rw [opL, opF, List.take_of_length_le h]

noncomputable def r5_0 : Array Oper := opsAt Tryd.f5 [0]
theorem r5_0_ok : dstOk 122 r5_0.toList = true ∧ r5_0.toList.all (fun o => noDefer o.op) = true := by decide +kernel
noncomputable def r5_1 : Array Oper := opsAt Tryd.f5 [1, 0]
theorem r5_1_ok : dstOk 122 r5_1.toList = true ∧ r5_1.toList.all (fun o => noDefer o.op) = true := by decide +kernel
noncomputable def r5_2 : Array Oper := opsAt Tryd.f5 [1, 1, 0]
theorem r5_2_ok : dstOk 122 r5_2.toList = true ∧ r5_2.toList.all (fun o => noDefer o.op) = true := by decide +kernel
noncomputable def r5_3 : Array Oper := opsAt Tryd.f5 [1, 1, 1, 0]
theorem r5_3_ok : dstOk 122 r5_3.toList = true ∧ r5_3.toList.all (fun o => noDefer o.op) = true := by decide +kernel
noncomputable def r5_4 : Array Oper := opsAt Tryd.f5 [1, 1, 1, 1, 0, 0]
theorem r5_4_ok : dstOk 122 r5_4.toList = true ∧ r5_4.toList.all (fun o => noDefer o.op) = true := by decide +kernel
noncomputable def r5_5 : Array Oper := opsAt Tryd.f5 [1, 1, 1, 1, 0, 1, 0, 0]
theorem r5_5_ok : dstOk 122 r5_5.toList = true ∧ r5_5.toList.all (fun o => noDefer o.op) = true := by decide +kernel
noncomputable def r5_6 : Array Oper := opsAt Tryd.f5 [1, 1, 1, 1, 1, 0]
theorem r5_6_ok : dstOk 122 r5_6.toList = true ∧ r5_6.toList.all (fun o => noDefer o.op) = true := by decide +kernel
noncomputable def r5_7 : Array Oper := opsAt Tryd.f5 [1, 1, 1, 1, 1, 1, 0, 0]
theorem r5_7_ok : dstOk 122 r5_7.toList = true ∧ r5_7.toList.all (fun o => noDefer o.op) = true := by decide +kernel
noncomputable def r5_8 : Array Oper := opsAt Tryd.f5 [1, 1, 1, 1, 1, 1, 0, 1, 0, 0, 0]
theorem r5_8_ok : dstOk 122 r5_8.toList = true ∧ r5_8.toList.all (fun o => noDefer o.op) = true := by decide +kernel
noncomputable def r5_9 : Array Oper := opsAt Tryd.f5 [1, 1, 1, 1, 1, 1, 0, 1, 0, 0, 1, 0, 0]
theorem r5_9_ok : dstOk 122 r5_9.toList = true ∧ r5_9.toList.all (fun o => noDefer o.op) = true := by decide +kernel
noncomputable def r5_10 : Array Oper := opsAt Tryd.f5 [1, 1, 1, 1, 1, 1, 0, 1, 0, 1]
theorem r5_10_ok : dstOk 122 r5_10.toList = true ∧ r5_10.toList.all (fun o => noDefer o.op) = true := by decide +kernel
noncomputable def r5_11 : Array Oper := opsAt Tryd.f5 [1, 1, 1, 1, 1, 1, 0, 1, 1, 0]
theorem r5_11_ok : dstOk 122 r5_11.toList = true ∧ r5_11.toList.all (fun o => noDefer o.op) = true := by decide +kernel
noncomputable def r5_12 : Array Oper := opsAt Tryd.f5 [1, 1, 1, 1, 1, 1, 0, 1, 1, 1, 0, 0]
theorem r5_12_ok : dstOk 122 r5_12.toList = true ∧ r5_12.toList.all (fun o => noDefer o.op) = true := by decide +kernel
noncomputable def r5_13 : Array Oper := opsAt Tryd.f5 [1, 1, 1, 1, 1, 1, 1, 0, 0]
theorem r5_13_ok : dstOk 122 r5_13.toList = true ∧ r5_13.toList.all (fun o => noDefer o.op) = true := by decide +kernel
noncomputable def r5_14 : Array Oper := opsAt Tryd.f5 [1, 1, 1, 1, 1, 1, 1, 0, 1, 0, 0, 0, 0]
theorem r5_14_ok : dstOk 122 r5_14.toList = true ∧ r5_14.toList.all (fun o => noDefer o.op) = true := by decide +kernel
noncomputable def r5_16 : Array Oper := opsAt Tryd.f5 [1, 1, 1, 1, 1, 1, 1, 0, 1, 0, 0, 1, 0, 0, 0]
theorem r5_16_ok : dstOk 122 r5_16.toList = true ∧ r5_16.toList.all (fun o => noDefer o.op) = true := by decide +kernel
noncomputable def r5_17 : Array Oper := opsAt Tryd.f5 [1, 1, 1, 1, 1, 1, 1, 0, 1, 0, 0, 1, 0, 0, 1, 0, 0]
theorem r5_17_ok : dstOk 122 r5_17.toList = true ∧ r5_17.toList.all (fun o => noDefer o.op) = true := by decide +kernel
noncomputable def r5_15 : Array Oper := opsAt Tryd.f5 [1, 1, 1, 1, 1, 1, 1, 0, 1, 0, 0, 1, 1]
theorem r5_15_ok : dstOk 122 r5_15.toList = true ∧ r5_15.toList.all (fun o => noDefer o.op) = true := by decide +kernel
noncomputable def b5_0 : Code := (.seq (.seq (.region 14 r5_14 false) (.cond (.tmp 73) .skip (.exit 0))) (.seq (.block 1 (.seq (.region 16 r5_16 false) (.cond (.tmp 82) (.seq (.region 17 r5_17 false) .ret) .skip))) (.region 15 r5_15 false)))
noncomputable def r5_18 : Array Oper := opsAt Tryd.f5 [1, 1, 1, 1, 1, 1, 1, 1, 0]
theorem r5_18_ok : dstOk 122 r5_18.toList = true ∧ r5_18.toList.all (fun o => noDefer o.op) = true := by decide +kernel
noncomputable def r5_19 : Array Oper := opsAt Tryd.f5 [1, 1, 1, 1, 1, 1, 1, 1, 1, 0, 0]
theorem r5_19_ok : dstOk 122 r5_19.toList = true ∧ r5_19.toList.all (fun o => noDefer o.op) = true := by decide +kernel
noncomputable def r5_20 : Array Oper := opsAt Tryd.f5 [1, 1, 1, 1, 1, 1, 1, 1, 1, 0, 1, 0, 0, 0]
theorem r5_20_ok : dstOk 122 r5_20.toList = true ∧ r5_20.toList.all (fun o => noDefer o.op) = true := by decide +kernel
noncomputable def r5_21 : Array Oper := opsAt Tryd.f5 [1, 1, 1, 1, 1, 1, 1, 1, 1, 0, 1, 0, 0, 1, 1, 0, 0, 0]
theorem r5_21_ok : dstOk 122 r5_21.toList = true ∧ r5_21.toList.all (fun o => noDefer o.op) = true := by decide +kernel
noncomputable def r5_22 : Array Oper := opsAt Tryd.f5 [1, 1, 1, 1, 1, 1, 1, 1, 1, 0, 1, 0, 0, 1, 1, 0, 0, 1, 0]
theorem r5_22_ok : dstOk 122 r5_22.toList = true ∧ r5_22.toList.all (fun o => noDefer o.op) = true := by decide +kernel
noncomputable def r5_23 : Array Oper := opsAt Tryd.f5 [1, 1, 1, 1, 1, 1, 1, 1, 1, 0, 1, 0, 0, 1, 1, 0, 0, 1, 1, 0]
theorem r5_23_ok : dstOk 122 r5_23.toList = true ∧ r5_23.toList.all (fun o => noDefer o.op) = true := by decide +kernel
noncomputable def r5_24 : Array Oper := opsAt Tryd.f5 [1, 1, 1, 1, 1, 1, 1, 1, 1, 0, 1, 0, 0, 1, 1, 1]
theorem r5_24_ok : dstOk 122 r5_24.toList = true ∧ r5_24.toList.all (fun o => noDefer o.op) = true := by decide +kernel
noncomputable def b5_1 : Code := (.seq (.region 20 r5_20 false) (.seq (.cond (.tmp 87) .skip (.exit 2)) (.seq (.block 3 (.seq (.region 21 r5_21 false) (.seq (.region 22 r5_22 false) (.cond (.tmp 97) (.region 23 r5_23 false) .skip)))) (.region 24 r5_24 false))))
noncomputable def r5_25 : Array Oper := opsAt Tryd.f5 [1, 1, 1, 1, 1, 1, 1, 1, 1, 1, 0]
theorem r5_25_ok : dstOk 122 r5_25.toList = true ∧ r5_25.toList.all (fun o => noDefer o.op) = true := by decide +kernel
noncomputable def r5_26 : Array Oper := opsAt Tryd.f5 [1, 1, 1, 1, 1, 1, 1, 1, 1, 1, 1, 0]
theorem r5_26_ok : dstOk 122 r5_26.toList = true ∧ r5_26.toList.all (fun o => noDefer o.op) = true := by decide +kernel
noncomputable def c5 : Code := (.seq (.region 0 r5_0 false) (.seq (.region 1 r5_1 false) (.seq (.region 2 r5_2 false) (.seq (.region 3 r5_3 false) (.seq (.seq (.region 4 r5_4 false) (.cond (.tmp 45) (.seq (.region 5 r5_5 false) .ret) .skip)) (.seq (.region 6 r5_6 false) (.seq (.seq (.region 7 r5_7 false) (.cond (.tmp 48) (.seq (.seq (.region 8 r5_8 false) (.cond (.tmp 65) (.seq (.region 9 r5_9 false) .ret) .skip)) (.region 10 r5_10 false)) (.seq (.region 11 r5_11 false) (.cond (.tmp 69) (.seq (.region 12 r5_12 false) .ret) .skip)))) (.seq (.seq (.region 13 r5_13 false) (.block 0 (.loop b5_0))) (.seq (.region 18 r5_18 false) (.seq (.seq (.region 19 r5_19 false) (.block 2 (.loop b5_1))) (.seq (.region 25 r5_25 false) (.seq (.region 26 r5_26 false) .ret))))))))))))
theorem body5 : Tryd.f5.body = some c5 := by kernel_rfl
set_option maxHeartbeats 4000000 in
theorem next_ok (b0 : Bool) (l : List NoteR) (hl0 : l.length ≤ 9223372036854775807) (hx : ∀ x ∈ l, x.ok) (b1 : Bool) (fl : List Int) (hl1 : fl.length ≤ 9223372036854775807) (hfl : ∀ x ∈ fl, u8r x) (pt : Int) (hpt : 0 ≤ pt ∧ pt ≤ 255) (day : Int) (hd : 0 ≤ day ∧ day ≤ 65535) : PureCall Tryd.prog GL 5 [.sl 4 b0 (l.map noteAV), .sl 1 b1 (fl.map u8AV), .raw (.int .u8 pt), .raw (.int .u16 day)] (.raw (.bool true)) := by
  refine pure_of_body Tryd.func5 body5 (Nat.le_of_ble_eq_true rfl) (by simp) (by simp) ?_
  refine w_keep [(0, .sl 4 b0 (l.map noteAV)), (1, .sl 1 b1 (fl.map u8AV)), (2, .raw (.int .u8 pt)), (3, .raw (.int .u16 day))] ⟨rfl, rfl, rfl, rfl, trivial⟩ ?_
  unfold c5
  have hR := rulesF_len l; have hRx := rulesF_ok hx; have hHO := offF_len fl; have h6 := sixL_len 6
  have hw0 := offF_wr (l := fl) (d := (day % 2001)) (by omega) (by omega)
  have hlaw := next_law (rulesF l) (offF fl) (pt % 8) (day % 2001) hw0 (by omega) (by omega)
  refine awp_seq ?_
  refine w_reg (l := r5_0.toList) rfl r5_0_ok ?_
  refine a_op rfl (o_as rfl) ?_
  refine a_nil ?_
  refine tq_n ?_
  refine awp_seq ?_
  refine w_reg (l := r5_1.toList) rfl r5_1_ok ?_
  refine a_pure rfl rfl rfl cb11 (six_ok) ?_
  refine a_op rfl (o_mv rfl) ?_
  refine a_pure rfl rfl rfl cb12 (rules_ok _ _ (by omega) hx) ?_
  refine a_op rfl (o_mv rfl) ?_
  refine a_pure rfl rfl rfl cb13 (off_ok _ _ (by omega) hfl) ?_
  refine a_op rfl (o_mv rfl) ?_
  refine a_op rfl (o_rem rfl rfl (by omega) (by omega)) ?_
  refine a_op rfl (o_cv tk24 tk3 rfl (by simp only [klo, khi]; omega)) ?_
  refine a_op rfl (o_al (N := 0) tz30 rfl rfl rfl) ?_
  refine a_op0 rfl (o_st (N := 3) tn30 rfl rfl (by first | exact good_slo rfl | rfl | (simp [AV.goodPart, AV.good, AV.isCell, fresh, nilS, Value.oneCell']; done)) rfl rfl) ?_
  refine a_op rfl (o_as rfl) ?_
  refine a_op rfl (o_as rfl) ?_
  refine a_op rfl (o_as rfl) ?_
  refine a_nil ?_
  refine tq_n ?_
  refine awp_seq ?_
  refine w_reg (l := r5_2.toList) rfl r5_2_ok ?_
  refine a_op rfl (o_mv rfl) ?_
  refine a_op rfl (o_rem rfl rfl (by omega) (by omega)) ?_
  refine a_op rfl (o_cv tk5 tk3 rfl (by simp only [klo, khi]; omega)) ?_
  refine a_op rfl (o_as rfl) ?_
  refine a_nil ?_
  refine tq_n ?_
  refine awp_seq ?_
  refine w_reg (l := r5_3.toList) rfl r5_3_ok ?_
  refine a_op rfl ((by first | exact o_ldg tg30 tn30 rfl rfl | exact o_ldpg tg30 tn30 rfl rfl rfl rfl)) ?_
  refine a_op rfl (o_mv rfl) ?_
  refine a_op rfl (o_mv rfl) ?_
  refine a_op rfl (o_mv rfl) ?_
  refine a_op rfl (o_mv rfl) ?_
  refine a_pure rfl rfl rfl cb17 (Next_ok _ _ _ cel_nilS cel_nilS cel_nilS _ _ (by omega) _ _ (by omega) hRx _ _ (by omega) _ _) ?_
  refine a_op rfl (o_mv rfl) ?_
  refine a_op rfl (o_ex rfl rfl) ?_
  refine a_op rfl (o_ex rfl rfl) ?_
  refine a_op rfl (o_ex rfl rfl) ?_
  refine a_op rfl (o_as rfl) ?_
  refine a_op rfl (o_as rfl) ?_
  refine a_op rfl (o_as rfl) ?_
  refine a_nil ?_
  refine tq_n ?_
  refine awp_seq ?_
  refine awp_seq ?_
  refine w_reg (l := r5_4.toList) rfl r5_4_ok ?_
  refine a_op rfl (o_mv rfl) ?_
  refine a_if rfl (o_ne rfl rfl) (fun h1 => ?_) (fun h2 => ?_)
  · omega
  refine a_nil ?_
  refine tq_n ?_
  refine w_false rfl ?_
  refine awp_skip ?_
  refine tq_n ?_
  refine awp_seq ?_
  refine w_reg (l := r5_6.toList) rfl r5_6_ok ?_
  refine a_op rfl (o_mv rfl) ?_
  refine a_op rfl (o_add rfl rfl (by simp only [klo, khi]; omega)) ?_
  refine a_op rfl (o_as rfl) ?_
  refine a_nil ?_
  refine tq_n ?_
  refine w_join (fun last : Int => last ≤ (day % 2001) + 800 ∧ (day % 2001) - 1 ≤ last ∧ ∀ k, (day % 2001) ≤ k → k ≤ last → lstat (sixL 6) (rulesF l) (offF fl) (pt % 8) k ≠ 1) (fun last => [(9, .ptr 0 0), (10, .sl 5 false ((rulesF l).map ruleAV)), (11, .sl 1 false ((offF fl).map intAV)), (12, .raw (.int .i64 (day % 2001))), (13, .raw (.int .i64 (pt % 8))), (17, .raw (.int .i64 last))]) (fun _ => [.var [nilS, nilS, nilS, .sl 8 false ((sixL 6).map ptAV)]]) ?_ ?_
  · refine awp_seq ?_
    refine w_reg (l := r5_7.toList) rfl r5_7_ok ?_
    refine a_ifb rfl (o_mv rfl) (fun h3 => ?_) (fun h4 => ?_)
    · refine a_nil ?_
      refine tq_n ?_
      refine w_true rfl ?_
      refine awp_seq ?_
      refine awp_seq ?_
      refine w_reg (l := r5_8.toList) rfl r5_8_ok ?_
      refine a_op rfl (o_mv rfl) ?_
      refine a_op rfl (o_mv rfl) ?_
      refine a_if rfl (o_lt rfl rfl) (fun h5 => ?_) (fun h6 => ?_)
      · have hl1 := hlaw.1 (by assumption); omega
      refine a_op rfl (o_mv rfl) ?_
      refine a_op rfl (o_mv rfl) ?_
      refine a_op rfl (o_mv rfl) ?_
      refine a_if rfl (o_gt rfl rfl) (fun h7 => ?_) (fun h8 => ?_)
      · have hl1 := hlaw.1 (by assumption); omega
      refine a_op rfl (o_pkf rfl rfl) ?_
      refine a_op rfl (o_mv rfl) ?_
      refine a_op rfl ((by first | exact o_ldg tg30 tn30 rfl rfl | exact o_ldpg tg30 tn30 rfl rfl rfl rfl)) ?_
      refine a_op rfl (o_mv rfl) ?_
      refine a_op rfl (o_mv rfl) ?_
      refine a_op rfl (o_mv rfl) ?_
      refine a_op rfl (o_mv rfl) ?_
      refine a_pure rfl rfl rfl cb14 (lstat_ok _ _ _ cel_nilS cel_nilS cel_nilS _ _ (by omega) _ _ (by omega) (hRx) _ _ (by omega) _ _) ?_
      refine a_if rfl (o_ne rfl rfl) (fun h9 => ?_) (fun h10 => ?_)
      · have hl1 := hlaw.1 (by assumption); omega
      refine a_op rfl (o_pkf rfl rfl) ?_
      refine a_nil ?_
      refine tq_n ?_
      refine w_false rfl ?_
      refine awp_skip ?_
      refine tq_n ?_
      have hg := hlaw.1 (by assumption)
      refine w_reg (l := r5_10.toList) rfl r5_10_ok ?_
      refine a_op rfl (o_mv rfl) ?_
      refine a_op rfl (o_sub rfl rfl (by simp only [klo, khi]; omega)) ?_
      refine a_op rfl (o_as rfl) ?_
      refine a_nil ?_
      refine tq_n ?_
      exact ⟨(nxV (sixL 6) (rulesF l) (offF fl) (pt % 8) (day % 2001)).1 - 1, ⟨by omega, by omega, hg.2.2.2⟩, ⟨(by first | exact sub_int rfl (by omega) | rfl | exact sub_eq rfl (by rw [opL_six (by omega) hw0]; simp [*])), (by first | exact sub_int rfl (by omega) | rfl | exact sub_eq rfl (by rw [opL_six (by omega) hw0]; simp [*])), (by first | exact sub_int rfl (by omega) | rfl | exact sub_eq rfl (by rw [opL_six (by omega) hw0]; simp [*])), (by first | exact sub_int rfl (by omega) | rfl | exact sub_eq rfl (by rw [opL_six (by omega) hw0]; simp [*])), (by first | exact sub_int rfl (by omega) | rfl | exact sub_eq rfl (by rw [opL_six (by omega) hw0]; simp [*])), (by first | exact sub_int rfl (by omega) | rfl | exact sub_eq rfl (by rw [opL_six (by omega) hw0]; simp [*])), trivial⟩, rfl⟩
    refine a_nil ?_
    refine tq_n ?_
    refine w_false rfl ?_
    refine awp_seq ?_
    refine w_reg (l := r5_11.toList) rfl r5_11_ok ?_
    refine a_op rfl (o_mv rfl) ?_
    refine a_if rfl (o_ne rfl rfl) (fun h11 => ?_) (fun h12 => ?_)
    · have hl1 := hlaw.2 (by assumption); omega
    refine a_nil ?_
    refine tq_n ?_
    refine w_false rfl ?_
    refine awp_skip ?_
    refine tq_n ?_
    exact ⟨(day % 2001) + 800, ⟨by omega, by omega, (hlaw.2 (by assumption)).2⟩, ⟨(by first | exact sub_int rfl (by omega) | rfl | exact sub_eq rfl (by rw [opL_six (by omega) hw0]; simp [*])), (by first | exact sub_int rfl (by omega) | rfl | exact sub_eq rfl (by rw [opL_six (by omega) hw0]; simp [*])), (by first | exact sub_int rfl (by omega) | rfl | exact sub_eq rfl (by rw [opL_six (by omega) hw0]; simp [*])), (by first | exact sub_int rfl (by omega) | rfl | exact sub_eq rfl (by rw [opL_six (by omega) hw0]; simp [*])), (by first | exact sub_int rfl (by omega) | rfl | exact sub_eq rfl (by rw [opL_six (by omega) hw0]; simp [*])), (by first | exact sub_int rfl (by omega) | rfl | exact sub_eq rfl (by rw [opL_six (by omega) hw0]; simp [*])), trivial⟩, rfl⟩
  intro last ⟨hp1, hp2, hp3⟩
  refine awp_seq ?_
  refine awp_seq ?_
  refine w_reg (l := r5_13.toList) rfl r5_13_ok ?_
  refine a_op rfl (o_mv rfl) ?_
  refine a_op rfl (o_as rfl) ?_
  refine a_nil ?_
  refine tq_n ?_
  refine awp_block ?_
  refine w_loop (fun d : Int => (day % 2001) ≤ d ∧ d ≤ last + 1) (fun d => [(9, .ptr 0 0), (10, .sl 5 false ((rulesF l).map ruleAV)), (11, .sl 1 false ((offF fl).map intAV)), (12, .raw (.int .i64 (day % 2001))), (13, .raw (.int .i64 (pt % 8))), (17, .raw (.int .i64 last)), (18, .raw (.int .i64 d))]) (fun _ => [.var [nilS, nilS, nilS, .sl 8 false ((sixL 6).map ptAV)]]) (fun d => (last + 1 - d).toNat) ((day % 2001)) ⟨by omega, by omega⟩ ⟨(by first | exact sub_int rfl (by omega) | rfl | exact sub_eq rfl (by rw [opL_six (by omega) hw0]; simp [*])), (by first | exact sub_int rfl (by omega) | rfl | exact sub_eq rfl (by rw [opL_six (by omega) hw0]; simp [*])), (by first | exact sub_int rfl (by omega) | rfl | exact sub_eq rfl (by rw [opL_six (by omega) hw0]; simp [*])), (by first | exact sub_int rfl (by omega) | rfl | exact sub_eq rfl (by rw [opL_six (by omega) hw0]; simp [*])), (by first | exact sub_int rfl (by omega) | rfl | exact sub_eq rfl (by rw [opL_six (by omega) hw0]; simp [*])), (by first | exact sub_int rfl (by omega) | rfl | exact sub_eq rfl (by rw [opL_six (by omega) hw0]; simp [*])), (by first | exact sub_int rfl (by omega) | rfl | exact sub_eq rfl (by rw [opL_six (by omega) hw0]; simp [*])), trivial⟩ rfl ?_
  intro dK ⟨hd1, hd2⟩
  unfold b5_0
  refine awp_seq ?_
  refine awp_seq ?_
  refine w_reg (l := r5_14.toList) rfl r5_14_ok ?_
  refine a_op rfl (o_mv rfl) ?_
  refine a_op rfl (o_mv rfl) ?_
  refine a_if rfl (o_le rfl rfl) (fun h13 => ?_) (fun h14 => ?_)
  · refine a_nil ?_
    refine tq_n ?_
    refine w_true rfl ?_
    refine awp_skip ?_
    refine tq_n ?_
    refine awp_seq ?_
    refine awp_block ?_
    refine awp_seq ?_
    refine w_reg (l := r5_16.toList) rfl r5_16_ok ?_
    refine a_op rfl ((by first | exact o_ldg tg30 tn30 rfl rfl | exact o_ldpg tg30 tn30 rfl rfl rfl rfl)) ?_
    refine a_op rfl (o_mv rfl) ?_
    refine a_op rfl (o_mv rfl) ?_
    refine a_op rfl (o_mv rfl) ?_
    refine a_op rfl (o_mv rfl) ?_
    refine a_pure rfl rfl rfl cb14 (lstat_ok _ _ _ cel_nilS cel_nilS cel_nilS _ _ (by omega) _ _ (by omega) (hRx) _ _ (by omega) _ _) ?_
    refine a_if rfl (o_eq rfl rfl) (fun h15 => ?_) (fun h16 => ?_)
    · exact absurd (by assumption) (hp3 _ (by omega) (by omega))
    refine a_nil ?_
    refine tq_n ?_
    refine w_false rfl ?_
    refine awp_skip ?_
    refine bq_n ?_
    refine tq_n ?_
    refine w_reg (l := r5_15.toList) rfl r5_15_ok ?_
    refine a_op rfl (o_mv rfl) ?_
    refine a_op rfl (o_add rfl rfl (by simp only [klo, khi]; omega)) ?_
    refine a_op rfl (o_as rfl) ?_
    refine a_nil ?_
    refine tq_n ?_
    exact ⟨dK + 1, ⟨⟨by omega, by omega⟩, by omega⟩, ⟨(by first | exact sub_int rfl (by omega) | rfl | exact sub_eq rfl (by rw [opL_six (by omega) hw0]; simp [*])), (by first | exact sub_int rfl (by omega) | rfl | exact sub_eq rfl (by rw [opL_six (by omega) hw0]; simp [*])), (by first | exact sub_int rfl (by omega) | rfl | exact sub_eq rfl (by rw [opL_six (by omega) hw0]; simp [*])), (by first | exact sub_int rfl (by omega) | rfl | exact sub_eq rfl (by rw [opL_six (by omega) hw0]; simp [*])), (by first | exact sub_int rfl (by omega) | rfl | exact sub_eq rfl (by rw [opL_six (by omega) hw0]; simp [*])), (by first | exact sub_int rfl (by omega) | rfl | exact sub_eq rfl (by rw [opL_six (by omega) hw0]; simp [*])), (by first | exact sub_int rfl (by omega) | rfl | exact sub_eq rfl (by rw [opL_six (by omega) hw0]; simp [*])), trivial⟩, rfl⟩
  refine a_nil ?_
  refine tq_n ?_
  refine w_false rfl ?_
  refine awp_exit ?_
  refine tq_x ?_
  refine tq_x ?_
  refine bq_hit ?_
  refine tq_n ?_
  refine awp_seq ?_
  refine w_reg (l := r5_18.toList) rfl r5_18_ok ?_
  refine a_op rfl (o_as rfl) ?_
  refine a_nil ?_
  refine tq_n ?_
  refine awp_seq ?_
  refine awp_seq ?_
  refine w_own (q := 19) (z := 1) (N := 1) (by decide) rfl rfl rfl ?_
  refine w_reg (l := r5_19.toList) rfl r5_19_ok ?_
  refine a_op rfl ((by first | exact o_fa tf30_3 rfl rfl | exact o_fap tf30_3 rfl rfl)) ?_
  refine a_op rfl ((by first | exact o_ld tg28 rfl rfl | exact o_ldp tg28 rfl rfl rfl rfl)) ?_
  refine a_op rfl (o_len rfl rfl (by first | exact List.length_map .. | rfl) tl28) ?_
  refine a_op rfl (o_mv rfl) ?_
  refine a_nil ?_
  refine tq_n ?_
  refine awp_block ?_
  refine w_loop (fun i : Nat => i ≤ (sixL 6).length) (fun kE => [(9, .ptr 0 0), (10, .sl 5 false ((rulesF l).map ruleAV)), (11, .sl 1 false ((offF fl).map intAV)), (12, .raw (.int .i64 (day % 2001))), (19, .slo 1 ((opL (sixL 6) (rulesF l) (offF fl) (day % 2001) kE).length) 0 ((opL (sixL 6) (rulesF l) (offF fl) (day % 2001) kE).length)), (84, .sl 8 false ((sixL 6).map ptAV)), (85, .raw (.int .i64 (((sixL 6).length : Nat) : Int))), (86, .raw (.int .i64 ((kE : Nat) : Int)))]) (fun kE => [.var [nilS, nilS, nilS, .sl 8 false ((sixL 6).map ptAV)], .vec 1 ((opL (sixL 6) (rulesF l) (offF fl) (day % 2001) kE).length) ((opL (sixL 6) (rulesF l) (offF fl) (day % 2001) kE).map intAV)]) (fun i => (sixL 6).length - i) (0) (by omega) ⟨(by first | exact sub_int rfl (by omega) | rfl | exact sub_eq rfl (by rw [opL_six (by omega) hw0]; simp [*])), (by first | exact sub_int rfl (by omega) | rfl | exact sub_eq rfl (by rw [opL_six (by omega) hw0]; simp [*])), (by first | exact sub_int rfl (by omega) | rfl | exact sub_eq rfl (by rw [opL_six (by omega) hw0]; simp [*])), (by first | exact sub_int rfl (by omega) | rfl | exact sub_eq rfl (by rw [opL_six (by omega) hw0]; simp [*])), (by first | exact sub_int rfl (by omega) | rfl | exact sub_eq rfl (by rw [opL_six (by omega) hw0]; simp [*])), (by first | exact sub_int rfl (by omega) | rfl | exact sub_eq rfl (by rw [opL_six (by omega) hw0]; simp [*])), (by first | exact sub_int rfl (by omega) | rfl | exact sub_eq rfl (by rw [opL_six (by omega) hw0]; simp [*])), (by first | exact sub_int rfl (by omega) | rfl | exact sub_eq rfl (by rw [opL_six (by omega) hw0]; simp [*])), trivial⟩ rfl ?_
  intro kE hEp
  have hoB := opL_bd (sixL 6) (rulesF l) (offF fl) (day % 2001) kE
  unfold b5_1
  refine awp_seq ?_
  refine w_reg (l := r5_20.toList) rfl r5_20_ok ?_
  refine a_if rfl (o_lt rfl rfl) (fun h17 => ?_) (fun h18 => ?_)
  · refine a_nil ?_
    refine tq_n ?_
    refine awp_seq ?_
    refine w_true rfl ?_
    refine awp_skip ?_
    refine tq_n ?_
    refine awp_seq ?_
    refine awp_block ?_
    refine awp_seq ?_
    have hE : kE < (sixL 6).length := by omega
    refine w_reg (l := r5_21.toList) rfl r5_21_ok ?_
    refine a_op rfl (o_ix te28 tn39 rfl rfl rfl (ixm _ _ _ hE)) ?_
    refine a_op rfl ((by first | exact o_ldg tg39 tn39 rfl rfl | exact o_ldpg tg39 tn39 rfl rfl rfl rfl)) ?_
    refine a_op rfl (o_al (N := 2) tz39 rfl rfl rfl) ?_
    refine a_op0 rfl (o_st (N := 7) tn39 rfl rfl (by first | exact good_slo rfl | rfl | (simp [AV.goodPart, AV.good, AV.isCell, fresh, nilS, Value.oneCell']; done)) rfl rfl) ?_
    refine a_nil ?_
    refine tq_n ?_
    refine awp_seq ?_
    refine w_reg (l := r5_22.toList) rfl r5_22_ok ?_
    refine a_op rfl ((by first | exact o_ldg tg30 tn30 rfl rfl | exact o_ldpg tg30 tn30 rfl rfl rfl rfl)) ?_
    refine a_op rfl (o_mv rfl) ?_
    refine a_op rfl (o_mv rfl) ?_
    refine a_op rfl ((by first | exact o_fa tf39_0 rfl rfl | exact o_fap tf39_0 rfl rfl)) ?_
    refine a_op rfl ((by first | exact o_ld tg3 rfl rfl | exact o_ldp tg3 rfl rfl rfl rfl)) ?_
    refine a_op rfl (o_mv rfl) ?_
    refine a_pure rfl rfl rfl cb14 (lstat_ok _ _ _ cel_nilS cel_nilS cel_nilS _ _ (by omega) _ _ (by omega) (hRx) _ _ (by omega) _ _) ?_
    refine a_if rfl (o_eq rfl rfl) (fun h19 => ?_) (fun h20 => ?_)
    · refine a_nil ?_
      refine tq_n ?_
      refine w_true rfl ?_
      refine w_reg (l := r5_23.toList) rfl r5_23_ok ?_
      refine a_op rfl (o_mv rfl) ?_
      refine a_op rfl ((by first | exact o_fa tf39_0 rfl rfl | exact o_fap tf39_0 rfl rfl)) ?_
      refine a_op rfl ((by first | exact o_ld tg3 rfl rfl | exact o_ldp tg3 rfl rfl rfl rfl)) ?_
      refine a_op rfl (o_bs tE34 (by decide) rfl rfl rfl) ?_
      refine a_op rfl (o_ap tE34 rfl rfl (by simp) rfl rfl rfl (by simp; omega) (by simp; omega) rfl rfl rfl rfl) ?_
      refine a_op rfl (o_as rfl) ?_
      refine a_nil ?_
      refine bq_n ?_
      refine tq_n ?_
      refine w_view [(9, .ptr 0 0), (10, .sl 5 false ((rulesF l).map ruleAV)), (11, .sl 1 false ((offF fl).map intAV)), (12, .raw (.int .i64 (day % 2001))), (19, .slo 1 (((opL (sixL 6) (rulesF l) (offF fl) (day % 2001) kE)).length + 1) 0 (((opL (sixL 6) (rulesF l) (offF fl) (day % 2001) kE)).length + 1)), (84, .sl 8 false ((sixL 6).map ptAV)), (85, .raw (.int .i64 (((sixL 6).length : Nat) : Int))), (86, .raw (.int .i64 ((kE : Nat) : Int)))] ([.var [nilS, nilS, nilS, .sl 8 false ((sixL 6).map ptAV)], .vec 1 (((opL (sixL 6) (rulesF l) (offF fl) (day % 2001) kE)).length + 1) ((opL (sixL 6) (rulesF l) (offF fl) (day % 2001) kE).map intAV ++ [.raw (.int .i64 ((sixL 6)[kE]'hE).id)])]) 2 rfl (Nat.le_of_ble_eq_true rfl) (Nat.le_of_ble_eq_true rfl) ⟨⟨_, rfl, (by first | exact .sloK (Nat.le_of_ble_eq_true rfl) | exact .ptrK (Nat.le_of_ble_eq_true rfl) | exact rs_pur (by simp) rfl)⟩, ⟨_, rfl, (by first | exact .sloK (Nat.le_of_ble_eq_true rfl) | exact .ptrK (Nat.le_of_ble_eq_true rfl) | exact rs_pur (by simp) rfl)⟩, ⟨_, rfl, (by first | exact .sloK (Nat.le_of_ble_eq_true rfl) | exact .ptrK (Nat.le_of_ble_eq_true rfl) | exact rs_pur (by simp) rfl)⟩, ⟨_, rfl, (by first | exact .sloK (Nat.le_of_ble_eq_true rfl) | exact .ptrK (Nat.le_of_ble_eq_true rfl) | exact rs_pur (by simp) rfl)⟩, ⟨_, rfl, (by first | exact .sloK (Nat.le_of_ble_eq_true rfl) | exact .ptrK (Nat.le_of_ble_eq_true rfl) | exact rs_pur (by simp) rfl)⟩, ⟨_, rfl, (by first | exact .sloK (Nat.le_of_ble_eq_true rfl) | exact .ptrK (Nat.le_of_ble_eq_true rfl) | exact rs_pur (by simp) rfl)⟩, ⟨_, rfl, (by first | exact .sloK (Nat.le_of_ble_eq_true rfl) | exact .ptrK (Nat.le_of_ble_eq_true rfl) | exact rs_pur (by simp) rfl)⟩, ⟨_, rfl, (by first | exact .sloK (Nat.le_of_ble_eq_true rfl) | exact .ptrK (Nat.le_of_ble_eq_true rfl) | exact rs_pur (by simp) rfl)⟩, trivial⟩ ⟨ors_var ⟨rs_pur (by simp [nilS]) rfl, rs_pur (by simp [nilS]) rfl, rs_pur (by simp [nilS]) rfl, rs_pur (by simp) rfl, trivial⟩, ors_vec (by first | (simp; done) | (rintro x hx; simp at hx; rcases hx with ⟨a, _, rfl⟩ | rfl <;> simp)), trivial⟩ ?_
      refine w_reg (l := r5_24.toList) rfl r5_24_ok ?_
      refine a_op rfl (o_add rfl rfl (by simp only [klo, khi]; omega)) ?_
      refine a_op rfl (o_mv rfl) ?_
      refine a_nil ?_
      refine tq_n ?_
      exact ⟨kE + 1, ⟨by omega, by omega⟩, ⟨(by first | exact sub_int rfl (by omega) | rfl | exact sub_eq rfl (by rw [opL_six (by omega) hw0]; simp [*])), (by first | exact sub_int rfl (by omega) | rfl | exact sub_eq rfl (by rw [opL_six (by omega) hw0]; simp [*])), (by first | exact sub_int rfl (by omega) | rfl | exact sub_eq rfl (by rw [opL_six (by omega) hw0]; simp [*])), (by first | exact sub_int rfl (by omega) | rfl | exact sub_eq rfl (by rw [opL_six (by omega) hw0]; simp [*])), (by first | exact sub_int rfl (by omega) | rfl | exact sub_eq rfl (by rw [opL_six (by omega) hw0]; simp [*])), (by first | exact sub_int rfl (by omega) | rfl | exact sub_eq rfl (by rw [opL_six (by omega) hw0]; simp [*])), (by first | exact sub_int rfl (by omega) | rfl | exact sub_eq rfl (by rw [opL_six (by omega) hw0]; simp [*])), (by first | exact sub_int rfl (by omega) | rfl | exact sub_eq rfl (by rw [opL_six (by omega) hw0]; simp [*])), trivial⟩, by rw [opL_six (by omega) hw0]; simp [*]; try rfl⟩
    refine a_nil ?_
    refine tq_n ?_
    refine w_false rfl ?_
    refine awp_skip ?_
    refine bq_n ?_
    refine tq_n ?_
    refine w_view [(9, .ptr 0 0), (10, .sl 5 false ((rulesF l).map ruleAV)), (11, .sl 1 false ((offF fl).map intAV)), (12, .raw (.int .i64 (day % 2001))), (19, .slo 1 ((opL (sixL 6) (rulesF l) (offF fl) (day % 2001) kE).length) 0 ((opL (sixL 6) (rulesF l) (offF fl) (day % 2001) kE).length)), (84, .sl 8 false ((sixL 6).map ptAV)), (85, .raw (.int .i64 (((sixL 6).length : Nat) : Int))), (86, .raw (.int .i64 ((kE : Nat) : Int)))] ([.var [nilS, nilS, nilS, .sl 8 false ((sixL 6).map ptAV)], .vec 1 ((opL (sixL 6) (rulesF l) (offF fl) (day % 2001) kE).length) ((opL (sixL 6) (rulesF l) (offF fl) (day % 2001) kE).map intAV)]) 2 rfl (Nat.le_of_ble_eq_true rfl) (Nat.le_of_ble_eq_true rfl) ⟨⟨_, rfl, (by first | exact .sloK (Nat.le_of_ble_eq_true rfl) | exact .ptrK (Nat.le_of_ble_eq_true rfl) | exact rs_pur (by simp) rfl)⟩, ⟨_, rfl, (by first | exact .sloK (Nat.le_of_ble_eq_true rfl) | exact .ptrK (Nat.le_of_ble_eq_true rfl) | exact rs_pur (by simp) rfl)⟩, ⟨_, rfl, (by first | exact .sloK (Nat.le_of_ble_eq_true rfl) | exact .ptrK (Nat.le_of_ble_eq_true rfl) | exact rs_pur (by simp) rfl)⟩, ⟨_, rfl, (by first | exact .sloK (Nat.le_of_ble_eq_true rfl) | exact .ptrK (Nat.le_of_ble_eq_true rfl) | exact rs_pur (by simp) rfl)⟩, ⟨_, rfl, (by first | exact .sloK (Nat.le_of_ble_eq_true rfl) | exact .ptrK (Nat.le_of_ble_eq_true rfl) | exact rs_pur (by simp) rfl)⟩, ⟨_, rfl, (by first | exact .sloK (Nat.le_of_ble_eq_true rfl) | exact .ptrK (Nat.le_of_ble_eq_true rfl) | exact rs_pur (by simp) rfl)⟩, ⟨_, rfl, (by first | exact .sloK (Nat.le_of_ble_eq_true rfl) | exact .ptrK (Nat.le_of_ble_eq_true rfl) | exact rs_pur (by simp) rfl)⟩, ⟨_, rfl, (by first | exact .sloK (Nat.le_of_ble_eq_true rfl) | exact .ptrK (Nat.le_of_ble_eq_true rfl) | exact rs_pur (by simp) rfl)⟩, trivial⟩ ⟨ors_var ⟨rs_pur (by simp [nilS]) rfl, rs_pur (by simp [nilS]) rfl, rs_pur (by simp [nilS]) rfl, rs_pur (by simp) rfl, trivial⟩, ors_vec (by first | (simp; done) | (rintro x hx; simp at hx; rcases hx with ⟨a, _, rfl⟩ | rfl <;> simp)), trivial⟩ ?_
    refine w_reg (l := r5_24.toList) rfl r5_24_ok ?_
    refine a_op rfl (o_add rfl rfl (by simp only [klo, khi]; omega)) ?_
    refine a_op rfl (o_mv rfl) ?_
    refine a_nil ?_
    refine tq_n ?_
    exact ⟨kE + 1, ⟨by omega, by omega⟩, ⟨(by first | exact sub_int rfl (by omega) | rfl | exact sub_eq rfl (by rw [opL_six (by omega) hw0]; simp [*])), (by first | exact sub_int rfl (by omega) | rfl | exact sub_eq rfl (by rw [opL_six (by omega) hw0]; simp [*])), (by first | exact sub_int rfl (by omega) | rfl | exact sub_eq rfl (by rw [opL_six (by omega) hw0]; simp [*])), (by first | exact sub_int rfl (by omega) | rfl | exact sub_eq rfl (by rw [opL_six (by omega) hw0]; simp [*])), (by first | exact sub_int rfl (by omega) | rfl | exact sub_eq rfl (by rw [opL_six (by omega) hw0]; simp [*])), (by first | exact sub_int rfl (by omega) | rfl | exact sub_eq rfl (by rw [opL_six (by omega) hw0]; simp [*])), (by first | exact sub_int rfl (by omega) | rfl | exact sub_eq rfl (by rw [opL_six (by omega) hw0]; simp [*])), (by first | exact sub_int rfl (by omega) | rfl | exact sub_eq rfl (by rw [opL_six (by omega) hw0]; simp [*])), trivial⟩, by rw [opL_six (by omega) hw0]; simp [*]; try rfl⟩
  refine a_nil ?_
  refine tq_n ?_
  refine awp_seq ?_
  refine w_false rfl ?_
  refine awp_exit ?_
  refine tq_x ?_
  refine tq_x ?_
  refine bq_hit ?_
  refine tq_n ?_
  refine awp_seq ?_
  have hOE := opL_end (rulesF l) (offF fl) (day % 2001) (k := kE) (by omega)
  refine w_reg (l := r5_25.toList) rfl r5_25_ok ?_
  refine a_op rfl ((by first | exact o_ldg tg30 tn30 rfl rfl | exact o_ldpg tg30 tn30 rfl rfl rfl rfl)) ?_
  refine a_op rfl (o_mv rfl) ?_
  refine a_op rfl (o_mv rfl) ?_
  refine a_op rfl (o_mv rfl) ?_
  refine a_pure rfl rfl rfl cb18 (open6_ok false _ (by omega) hRx _ (by omega) _ hw0) ?_
  refine a_op rfl (o_mv rfl) ?_
  refine a_op rfl (o_ex rfl rfl) ?_
  refine a_op rfl (o_ex rfl rfl) ?_
  refine a_op rfl (o_as rfl) ?_
  refine a_op rfl (o_as rfl) ?_
  refine a_nil ?_
  refine tq_n ?_
  refine awp_seq ?_
  refine w_reg (l := r5_26.toList) rfl r5_26_ok ?_
  refine a_op rfl (o_mv rfl) ?_
  refine a_if rfl (o_eq rfl rfl) (fun h21 => ?_) (fun h22 => ?_)
  · refine a_op rfl (o_mv rfl) ?_
    refine a_op rfl (o_mv rfl) ?_
    refine a_op rfl (o_mv rfl) ?_
    refine a_lend (vs' := [.sl 1 false ((opF (sixL 6) (rulesF l) (offF fl) (day % 2001)).map intAV), .sl 1 false ((opF (sixL 6) (rulesF l) (offF fl) (day % 2001)).map intAV)]) rfl rfl rfl cb19 (same_true _ (by have := opL_bd (sixL 6) (rulesF l) (offF fl) (day % 2001) kE; rw [hOE] at this; omega)) ⟨rs_pur (by simp) rfl, rs_slo id rfl (by simp) (by simp) (by rw [hOE]), trivial⟩ (by simp) ?_
    refine a_op rfl (o_pkt rfl rfl) ?_
    refine a_op rfl (o_mv rfl) ?_
    refine a_pure rfl rfl rfl cb15 (awake_ok) ?_
    refine a_op rfl (o_pkt rfl rfl) ?_
    refine a_op rfl (o_as rfl) ?_
    refine a_nil ?_
    refine tq_n ?_
    refine awp_ret ?_
    refine r_one rfl ⟨rfl, trivial⟩ ?_
    exact rs_pur (by simp) rfl
  omega
end Go.Ab.D
