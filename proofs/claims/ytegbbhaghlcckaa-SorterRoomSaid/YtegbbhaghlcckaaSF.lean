/- What functions of this program compute, and the laws of what they compute, under the bounds on lengths that each contract states. -/
import Derived.Test.YtegbbhaghlcckaaSD
import Derived.Test.YtegbbhaghlcckaaAb38
import Derived.Test.YtegbbhaghlcckaaSE

set_option linter.unusedSimpArgs false
set_option linter.unusedVariables false
namespace Go.Ab.S
open Go Go.Ab Go.Proofs
/-- Where the laying of stops stands: the stacker of the second pass, how many stops it has, their volume. -/
structure GS where
  at_ : Nat
  many : Int
  load : Int
def advF (caps : List Int) (most v : Int) : Nat → GS → GS
  | 0, s => s
  | f + 1, s => if s.many = most ∨ caps.getD s.at_ 0 < s.load + v then advF caps most v f ⟨s.at_ + 1, 0, 0⟩ else s
def adv (caps : List Int) (most v : Int) (s : GS) : GS := advF caps most v (caps.length - s.at_) s
theorem adv_step {caps : List Int} {most v : Int} {s : GS} (h : s.at_ < caps.length) (hc : s.many = most ∨ caps.getD s.at_ 0 < s.load + v) : adv caps most v s = adv caps most v ⟨s.at_ + 1, 0, 0⟩ := by
  unfold adv
  rw [show caps.length - s.at_ = (caps.length - (s.at_ + 1)) + 1 by omega, advF, if_pos hc]
theorem adv_stop {caps : List Int} {most v : Int} {s : GS} (h : s.at_ < caps.length → ¬ (s.many = most ∨ caps.getD s.at_ 0 < s.load + v)) : adv caps most v s = s := by
  unfold adv
  rcases Nat.lt_or_ge s.at_ caps.length with h1 | h1
  · rw [show caps.length - s.at_ = (caps.length - (s.at_ + 1)) + 1 by omega, advF, if_neg (h h1)]
  · rw [show caps.length - s.at_ = 0 by omega]; rfl
theorem advF_in {caps : List Int} {most v : Int} : ∀ (f : Nat) (s : GS), f = caps.length - s.at_ → s.at_ ≤ caps.length → (advF caps most v f s).at_ ≤ caps.length ∧ s.at_ ≤ (advF caps most v f s).at_ ∧
    ((advF caps most v f s) = s ∨ ((advF caps most v f s).many = 0 ∧ (advF caps most v f s).load = 0 ∧ s.at_ < (advF caps most v f s).at_)) ∧
    ((advF caps most v f s).at_ < caps.length → (advF caps most v f s).many ≠ most ∧ (advF caps most v f s).load + v ≤ caps.getD (advF caps most v f s).at_ 0)
  | 0, s, hf, h => by simp only [advF]; exact ⟨h, Nat.le_refl _, .inl trivial, fun h1 => by omega⟩
  | f + 1, s, hf, h => by
    simp only [advF]
    split
    · obtain ⟨a, b, c, d⟩ := advF_in (caps := caps) (most := most) (v := v) f ⟨s.at_ + 1, 0, 0⟩ (by simp; omega) (by simp; omega)
      refine ⟨a, by simp at b; omega, .inr ?_, d⟩
      simp only at b c
      rcases c with c | c
      · rw [c]; exact ⟨rfl, rfl, by simp⟩
      · exact ⟨c.1, c.2.1, by omega⟩
    · rename_i hc
      exact ⟨h, Nat.le_refl _, .inl rfl, fun _ => ⟨fun h1 => hc (.inl h1), by
        rcases Int.lt_or_le (caps.getD s.at_ 0) (s.load + v) with h2 | h2
        · exact absurd (.inr h2) hc
        · exact h2⟩⟩
theorem adv_in {caps : List Int} {most v : Int} {s : GS} (h : s.at_ ≤ caps.length) : (adv caps most v s).at_ ≤ caps.length ∧ s.at_ ≤ (adv caps most v s).at_ ∧
    ((adv caps most v s) = s ∨ ((adv caps most v s).many = 0 ∧ (adv caps most v s).load = 0 ∧ s.at_ < (adv caps most v s).at_)) ∧
    ((adv caps most v s).at_ < caps.length → (adv caps most v s).many ≠ most ∧ (adv caps most v s).load + v ≤ caps.getD (adv caps most v s).at_ 0) := advF_in _ _ rfl h
def nxt (caps : List Int) (most : Int) (s : GS) (x : StopR) : GS := ⟨(adv caps most x.vol s).at_, (adv caps most x.vol s).many + 1, (adv caps most x.vol s).load + x.vol⟩
def seatAt (s : GS) (x : StopR) : SeatR := ⟨x.id, x.vol, s.many, s.at_⟩
def seatsR (caps : List Int) (most : Int) : List StopR → GS → List SeatR
  | [], _ => []
  | x :: t, s => if (adv caps most x.vol s).at_ = caps.length then [] else seatAt (adv caps most x.vol s) x :: seatsR caps most t (nxt caps most s x)
def g0 : GS := ⟨0, 0, 0⟩
def gsAt (caps : List Int) (most : Int) (stops : List StopR) (i : Nat) : GS := (stops.take i).foldl (nxt caps most) g0
theorem gsAt_succ {caps : List Int} {most : Int} {stops : List StopR} {i : Nat} (h : i < stops.length) : gsAt caps most stops (i + 1) = nxt caps most (gsAt caps most stops i) stops[i] := by
  unfold gsAt; rw [List.take_succ_eq_append_getElem h, List.foldl_append]; rfl
/-- All that is laid for a limit. -/
def tryS (caps : List Int) (most : Int) (stops : List StopR) : List SeatR := seatsR caps most stops g0
/-- The state before a stop, and what is left to be laid. -/
structure GI (caps : List Int) (most : Int) (stops : List StopR) (i : Nat) : Prop where
  hi : i ≤ stops.length
  hs : i ≤ (tryS caps most stops).length
  hd : (tryS caps most stops).drop i = seatsR caps most (stops.drop i) (gsAt caps most stops i)
  ha : (gsAt caps most stops i).at_ ≤ caps.length
  hm : 0 ≤ (gsAt caps most stops i).many ∧ (gsAt caps most stops i).many ≤ most ∧ (gsAt caps most stops i).many ≤ i
  hl : 0 ≤ (gsAt caps most stops i).load ∧ (gsAt caps most stops i).load ≤ 10000 * i
theorem GI.zero {caps : List Int} {most : Int} {stops : List StopR} (h : 0 ≤ most) : GI caps most stops 0 :=
  ⟨by simp, by simp, by simp [tryS, gsAt], by simp [gsAt, g0], ⟨by simp [gsAt, g0], by simpa [gsAt, g0] using h, by simp [gsAt, g0]⟩, by simp [gsAt, g0]⟩
theorem GI.full {caps : List Int} {most : Int} {stops : List StopR} {i : Nat} (h : GI caps most stops i) (he : ¬ i < stops.length) : (tryS caps most stops).length = i := by
  have h1 := h.hd
  rw [List.drop_eq_nil_of_le (show stops.length ≤ i by omega)] at h1
  have := congrArg List.length h1
  have h2 := h.hs
  simp [seatsR] at this; omega
theorem GI.stop {caps : List Int} {most : Int} {stops : List StopR} {i : Nat} (h : GI caps most stops i) (hi : i < stops.length) (ha : (adv caps most stops[i].vol (gsAt caps most stops i)).at_ = caps.length) : (tryS caps most stops).length = i := by
  have h1 := h.hd
  rw [List.drop_eq_getElem_cons hi, seatsR, if_pos ha] at h1
  have := congrArg List.length h1
  have h2 := h.hs
  simp at this; omega
theorem GI.next {caps : List Int} {most : Int} {stops : List StopR} {i : Nat} (h : GI caps most stops i) (hi : i < stops.length) (ha : (adv caps most stops[i].vol (gsAt caps most stops i)).at_ ≠ caps.length) (hv : 1 ≤ stops[i].vol ∧ stops[i].vol ≤ 10000) :
    ∃ hs : i < (tryS caps most stops).length, (tryS caps most stops)[i] = seatAt (adv caps most stops[i].vol (gsAt caps most stops i)) stops[i] ∧ GI caps most stops (i + 1) ∧
      0 ≤ (adv caps most stops[i].vol (gsAt caps most stops i)).many ∧ (adv caps most stops[i].vol (gsAt caps most stops i)).many < most ∧ (adv caps most stops[i].vol (gsAt caps most stops i)).at_ < caps.length ∧ gsAt caps most stops (i + 1) = nxt caps most (gsAt caps most stops i) stops[i] := by
  obtain ⟨a, b, c, d⟩ := adv_in (caps := caps) (most := most) (v := stops[i].vol) h.ha
  have h1 := h.hd
  rw [List.drop_eq_getElem_cons hi, seatsR, if_neg ha] at h1
  obtain ⟨hs, e1, e2⟩ := drop_of' h1
  have hm := h.hm; have hl := h.hl
  have hd := d (by omega)
  have hmm : 0 ≤ (adv caps most stops[i].vol (gsAt caps most stops i)).many ∧ (adv caps most stops[i].vol (gsAt caps most stops i)).many ≤ most ∧ (adv caps most stops[i].vol (gsAt caps most stops i)).many ≤ i ∧ 0 ≤ (adv caps most stops[i].vol (gsAt caps most stops i)).load ∧ (adv caps most stops[i].vol (gsAt caps most stops i)).load ≤ 10000 * i := by
    rcases c with c | c
    · rw [c]; omega
    · omega
  refine ⟨hs, e1, ⟨by omega, by omega, ?_, ?_, ?_, ?_⟩, by omega, by omega, by omega, gsAt_succ hi⟩
  · rw [e2, gsAt_succ hi]
  all_goals (rw [gsAt_succ hi]; simp only [nxt]; omega)
where
  drop_of' {α : Type} {l : List α} {n : Nat} {x : α} {t : List α} (h : l.drop n = x :: t) : ∃ hn : n < l.length, l[n] = x ∧ l.drop (n + 1) = t := by
    have hn : n < l.length := by
      rcases Nat.lt_or_ge n l.length with h' | h'
      · exact h'
      · rw [List.drop_eq_nil_of_le h'] at h; cases h
    rw [List.drop_eq_getElem_cons hn] at h
    cases h
    exact ⟨hn, rfl, rfl⟩
def withinF (loads caps : List Int) : Bool := (List.range loads.length).all fun i => decide (loads.getD i 0 ≤ caps.getD i 0)
theorem withinF_bad {loads caps : List Int} {i : Nat} (hi : i < loads.length) (h : caps.getD i 0 < loads.getD i 0) : withinF loads caps = false := by
  rw [withinF, List.all_eq_false]
  exact ⟨i, List.mem_range.2 hi, by rw [decide_eq_true_eq]; omega⟩
theorem withinF_ok {loads caps : List Int} (h : ∀ j, j < loads.length → loads.getD j 0 ≤ caps.getD j 0) : withinF loads caps = true := by
  rw [withinF, List.all_eq_true]
  exact fun i hi => by rw [decide_eq_true_eq]; exact h i (List.mem_range.1 hi)
def loadF (caps : List Int) (l : List SeatR) (sel : SeatR → Int) : List Int := loadS caps.length sel l l.length
def fitS (caps : List Int) (stops : List StopR) (m : Nat) : Bool := decide ((tryS caps m stops).length = stops.length) && withinF (loadF caps (tryS caps m stops) (·.fst)) caps
def findM (caps : List Int) (stops : List StopR) : Nat → Option Nat
  | 0 => if stops.length = 0 then some 0 else none
  | m + 1 => if fitS caps stops (m + 1) = true then some (m + 1) else findM caps stops m
def planM (caps : List Int) (stops : List StopR) (m : Nat) : PlanR := ⟨caps, tryS caps m stops, loadF caps (tryS caps m stops) (·.fst), loadF caps (tryS caps m stops) (·.snd)⟩
def emptyP : PlanR := ⟨[], [], [], []⟩
def makeF (stops : List StopR) (caps : List Int) : PlanR × Int :=
  if rightF caps = false then (emptyP, 280) else if 1000 < stops.length then (emptyP, 5) else if 0 ≤ wrongS stops then (emptyP, 281)
  else match findM caps stops (min stops.length caps.length) with | some m => (planM caps stops m, 0) | none => (emptyP, 4)
theorem wrongS_stop {l : List StopR} (h : wrongS l < 0) : ∀ x ∈ l, 1 ≤ x.id ∧ x.id ≤ 999999 ∧ 1 ≤ x.vol ∧ x.vol ≤ 10000 := by
  intro x hx
  obtain ⟨i, hi, rfl⟩ := List.getElem_of_mem hx
  have h1 := fxI_neg (p := badStop l) h i hi
  have h2 : (l[i].id < 1 ∨ 999999 < l[i].id ∨ l[i].vol < 1 ∨ 10000 < l[i].vol) → False := fun hh => by have := (badStop_iff hi).2 (.inr hh); rw [h1] at this; cases this
  by_cases a1 : l[i].id < 1
  · exact (h2 (.inl a1)).elim
  by_cases a2 : 999999 < l[i].id
  · exact (h2 (.inr (.inl a2))).elim
  by_cases a3 : l[i].vol < 1
  · exact (h2 (.inr (.inr (.inl a3)))).elim
  by_cases a4 : 10000 < l[i].vol
  · exact (h2 (.inr (.inr (.inr a4)))).elim
  omega
end Go.Ab.S
namespace Go.Ab.S
open Go Go.Ab Go.Proofs

noncomputable def r71_0 : Array Oper := opsAt Try.f71 [0]
theorem r71_0_ok : dstOk 8 r71_0.toList = true ∧ r71_0.toList.all (fun o => noDefer o.op) = true := by decide +kernel
noncomputable def r71_1 : Array Oper := opsAt Try.f71 [1, 0, 0]
theorem r71_1_ok : dstOk 8 r71_1.toList = true ∧ r71_1.toList.all (fun o => noDefer o.op) = true := by decide +kernel
noncomputable def r71_2 : Array Oper := opsAt Try.f71 [1, 0, 1, 0, 0]
theorem r71_2_ok : dstOk 8 r71_2.toList = true ∧ r71_2.toList.all (fun o => noDefer o.op) = true := by decide +kernel
noncomputable def r71_3 : Array Oper := opsAt Try.f71 [1, 1, 0]
theorem r71_3_ok : dstOk 8 r71_3.toList = true ∧ r71_3.toList.all (fun o => noDefer o.op) = true := by decide +kernel
noncomputable def c71 : Code := (.seq (.region 0 r71_0 false) (.seq (.seq (.region 1 r71_1 false) (.cond (.tmp 4) (.seq (.region 2 r71_2 false) .ret) .skip)) (.seq (.region 3 r71_3 false) .ret)))
theorem body71 : Try.f71.body = some c71 := by kernel_rfl
theorem clone_ok (b : Fl) (xs : List Int) (hne : xs ≠ []) (hl : xs.length ≤ 1000000) : PureCall Try.prog GL 71 [.sl 1 b (xs.map intAV)] (rowAV xs) := by
  refine pure_of_body Try.func71 body71 (Nat.le_of_ble_eq_true rfl) (by simp) (by simp) ?_
  refine w_keep [(0, .sl 1 b (xs.map intAV))] ⟨rfl, trivial⟩ ?_
  unfold c71
  refine awp_seq ?_
  refine w_reg (l := r71_0.toList) rfl r71_0_ok ?_
  refine a_op rfl (o_as rfl) ?_
  refine a_nil ?_
  refine tq_n ?_
  refine awp_seq ?_
  refine awp_seq ?_
  refine w_reg (l := r71_1.toList) rfl r71_1_ok ?_
  refine a_op rfl (o_mv rfl) ?_
  refine a_op rfl (o_eqn te34 rfl (by simpa using hne)) ?_
  refine a_nil ?_
  refine tq_n ?_
  refine w_false rfl ?_
  refine awp_skip ?_
  refine tq_n ?_
  refine awp_seq ?_
  refine w_reg (l := r71_3.toList) rfl r71_3_ok ?_
  refine a_op rfl (o_bso (N := 0) tE34 (by decide) rfl rfl rfl rfl rfl) ?_
  refine a_op rfl (o_mv rfl) ?_
  refine a_op rfl (o_ap tE34 rfl rfl rfl rfl rfl (by simp) (by simp; omega) (by simp; omega) rfl rfl rfl rfl) ?_
  refine a_op rfl (o_as rfl) ?_
  refine a_nil ?_
  refine tq_n ?_
  refine awp_ret ?_
  refine r_one rfl ⟨rfl, trivial⟩ ?_
  exact rs_slo id rfl (by simp) (pu_int _) (by simp)
noncomputable def r73_0 : Array Oper := opsAt Try.f73 [0]
theorem r73_0_ok : dstOk 21 r73_0.toList = true ∧ r73_0.toList.all (fun o => noDefer o.op) = true := by decide +kernel
noncomputable def r73_1 : Array Oper := opsAt Try.f73 [1, 0, 0]
theorem r73_1_ok : dstOk 21 r73_1.toList = true ∧ r73_1.toList.all (fun o => noDefer o.op) = true := by decide +kernel
noncomputable def r73_2 : Array Oper := opsAt Try.f73 [1, 0, 1, 0, 0, 0]
theorem r73_2_ok : dstOk 21 r73_2.toList = true ∧ r73_2.toList.all (fun o => noDefer o.op) = true := by decide +kernel
noncomputable def r73_3 : Array Oper := opsAt Try.f73 [1, 0, 1, 0, 0, 1, 1, 0, 0, 0]
theorem r73_3_ok : dstOk 21 r73_3.toList = true ∧ r73_3.toList.all (fun o => noDefer o.op) = true := by decide +kernel
noncomputable def r73_4 : Array Oper := opsAt Try.f73 [1, 0, 1, 0, 0, 1, 1, 0, 0, 1, 0]
theorem r73_4_ok : dstOk 21 r73_4.toList = true ∧ r73_4.toList.all (fun o => noDefer o.op) = true := by decide +kernel
noncomputable def r73_5 : Array Oper := opsAt Try.f73 [1, 0, 1, 0, 0, 1, 1, 0, 0, 1, 1, 0, 0]
theorem r73_5_ok : dstOk 21 r73_5.toList = true ∧ r73_5.toList.all (fun o => noDefer o.op) = true := by decide +kernel
noncomputable def r73_6 : Array Oper := opsAt Try.f73 [1, 0, 1, 0, 0, 1, 1, 1]
theorem r73_6_ok : dstOk 21 r73_6.toList = true ∧ r73_6.toList.all (fun o => noDefer o.op) = true := by decide +kernel
noncomputable def b73_0 : Code := (.seq (.region 2 r73_2 false) (.seq (.cond (.tmp 10) .skip (.exit 0)) (.seq (.block 1 (.seq (.region 3 r73_3 false) (.seq (.region 4 r73_4 false) (.cond (.tmp 19) (.seq (.region 5 r73_5 false) .ret) .skip)))) (.region 6 r73_6 false))))
noncomputable def r73_7 : Array Oper := opsAt Try.f73 [1, 1, 0]
theorem r73_7_ok : dstOk 21 r73_7.toList = true ∧ r73_7.toList.all (fun o => noDefer o.op) = true := by decide +kernel
noncomputable def c73 : Code := (.seq (.region 0 r73_0 false) (.seq (.seq (.region 1 r73_1 false) (.block 0 (.loop b73_0))) (.seq (.region 7 r73_7 false) .ret)))
theorem body73 : Try.f73.body = some c73 := by kernel_rfl
theorem within_ok (b : Fl) (xs : List Int) (hl : xs.length ≤ 1000000) (b2 : Fl) (ys : List Int) (h : xs.length ≤ ys.length) : PureCall Try.prog GL 73 [.sl 1 b (xs.map intAV), .sl 1 b2 (ys.map intAV)] (.raw (.bool (withinF xs ys))) := by
  refine pure_of_body Try.func73 body73 (Nat.le_of_ble_eq_true rfl) (by simp) (by simp) ?_
  refine w_keep [(0, .sl 1 b (xs.map intAV)), (1, .sl 1 b2 (ys.map intAV))] ⟨rfl, rfl, trivial⟩ ?_
  unfold c73
  refine awp_seq ?_
  refine w_reg (l := r73_0.toList) rfl r73_0_ok ?_
  refine a_op rfl (o_as rfl) ?_
  refine a_nil ?_
  refine tq_n ?_
  refine awp_seq ?_
  refine awp_seq ?_
  refine w_reg (l := r73_1.toList) rfl r73_1_ok ?_
  refine a_op rfl (o_mv rfl) ?_
  refine a_op rfl (o_len rfl rfl (by first | exact List.length_map .. | rfl) tl34) ?_
  refine a_op rfl (o_mv rfl) ?_
  refine a_nil ?_
  refine tq_n ?_
  refine awp_block ?_
  refine w_loop (fun i : Nat => i ≤ xs.length ∧ ∀ j, j < i → xs.getD j 0 ≤ ys.getD j 0) (fun i => [(1, .sl 1 b2 (ys.map intAV)), (7, .sl 1 b (xs.map intAV)), (8, .raw (.int .i64 ((xs.length : Nat) : Int))), (9, .raw (.int .i64 ((i : Nat) : Int)))]) (fun _ => []) (fun i => xs.length - i) (0) ⟨by simp, by simp⟩ ⟨(by first | exact sub_int rfl (by omega) | rfl), (by first | exact sub_int rfl (by omega) | rfl), (by first | exact sub_int rfl (by omega) | rfl), (by first | exact sub_int rfl (by omega) | rfl), trivial⟩ rfl ?_
  intro i ⟨hp, hq⟩
  unfold b73_0
  refine awp_seq ?_
  refine w_reg (l := r73_2.toList) rfl r73_2_ok ?_
  refine a_if rfl (o_lt rfl rfl) (fun h1 => ?_) (fun h2 => ?_)
  · refine a_nil ?_
    refine tq_n ?_
    refine awp_seq ?_
    refine w_true rfl ?_
    refine awp_skip ?_
    refine tq_n ?_
    refine awp_seq ?_
    refine awp_block ?_
    refine awp_seq ?_
    have hi : i < xs.length := by omega
    have hi2 : i < ys.length := by omega
    refine w_reg (l := r73_3.toList) rfl r73_3_ok ?_
    refine a_op rfl (o_mv rfl) ?_
    refine a_op rfl (o_ix te34 tn3 rfl rfl rfl (ixm _ _ _ hi)) ?_
    refine a_op rfl ((by first | exact o_ld tg3 rfl rfl | exact o_ldp tg3 rfl rfl rfl rfl)) ?_
    refine a_op rfl (o_as rfl) ?_
    refine a_op rfl (o_as rfl) ?_
    refine a_nil ?_
    refine tq_n ?_
    refine awp_seq ?_
    refine w_reg (l := r73_4.toList) rfl r73_4_ok ?_
    refine a_op rfl (o_mv rfl) ?_
    refine a_op rfl (o_mv rfl) ?_
    refine a_op rfl (o_mv rfl) ?_
    refine a_op rfl (o_ix te34 tn3 rfl rfl rfl (ixm _ _ _ hi2)) ?_
    refine a_op rfl ((by first | exact o_ld tg3 rfl rfl | exact o_ldp tg3 rfl rfl rfl rfl)) ?_
    refine a_if rfl (o_gt rfl rfl) (fun h3 => ?_) (fun h4 => ?_)
    · refine a_nil ?_
      refine tq_n ?_
      refine w_true rfl ?_
      refine awp_seq ?_
      refine w_reg (l := r73_5.toList) rfl r73_5_ok ?_
      refine a_op rfl (o_as rfl) ?_
      refine a_nil ?_
      refine tq_n ?_
      refine awp_ret ?_
      refine bq_r ?_
      refine tq_r ?_
      refine tq_r ?_
      refine bq_r ?_
      refine tq_r ?_
      refine r_one rfl ⟨rfl, trivial⟩ ?_
      exact rs_pur (by simp) (by rw [withinF_bad hi (by rw [getDi hi, getDi hi2]; omega)])
    refine a_nil ?_
    refine tq_n ?_
    refine w_false rfl ?_
    refine awp_skip ?_
    refine bq_n ?_
    refine tq_n ?_
    refine w_reg (l := r73_6.toList) rfl r73_6_ok ?_
    refine a_op rfl (o_add rfl rfl (by simp only [klo, khi]; omega)) ?_
    refine a_op rfl (o_mv rfl) ?_
    refine a_nil ?_
    refine tq_n ?_
    exact ⟨i + 1, ⟨⟨by omega, fun j hj => by
        rcases Nat.lt_or_ge j i with h5 | h5
        · exact hq j h5
        · have : j = i := by omega
          subst this; rw [getDi hi, getDi hi2]; omega⟩, by omega⟩, ⟨(by first | exact sub_int rfl (by omega) | rfl), (by first | exact sub_int rfl (by omega) | rfl), (by first | exact sub_int rfl (by omega) | rfl), (by first | exact sub_int rfl (by omega) | rfl), trivial⟩, rfl⟩
  refine a_nil ?_
  refine tq_n ?_
  refine awp_seq ?_
  refine w_false rfl ?_
  refine awp_exit ?_
  refine tq_x ?_
  refine tq_x ?_
  refine bq_hit ?_
  refine tq_n ?_
  refine awp_seq ?_
  refine w_reg (l := r73_7.toList) rfl r73_7_ok ?_
  refine a_op rfl (o_as rfl) ?_
  refine a_nil ?_
  refine tq_n ?_
  refine awp_ret ?_
  refine r_one rfl ⟨rfl, trivial⟩ ?_
  exact rs_pur (by simp) (by rw [withinF_ok (fun j hj => hq j (by omega))])
noncomputable def r72_0 : Array Oper := opsAt Try.f72 [0]
theorem r72_0_ok : dstOk 8 r72_0.toList = true ∧ r72_0.toList.all (fun o => noDefer o.op) = true := by decide +kernel
noncomputable def r72_1 : Array Oper := opsAt Try.f72 [1, 0]
theorem r72_1_ok : dstOk 8 r72_1.toList = true ∧ r72_1.toList.all (fun o => noDefer o.op) = true := by decide +kernel
noncomputable def c72 : Code := (.seq (.region 0 r72_0 false) (.seq (.region 1 r72_1 false) .ret))
theorem body72 : Try.f72.body = some c72 := by kernel_rfl
theorem seats_ok (b : Fl) (stops : List StopR) (b2 : Fl) (caps : List Int) (m : Nat) : PureCall Try.prog GL 72 [.sl 2 b (stops.map stopAV), .sl 1 b2 (caps.map intAV), .raw (.int .i64 ((m : Nat) : Int))] (.fn 110 [] [.rp [.sl 2 b (stops.map stopAV)], .rp [.sl 1 b2 (caps.map intAV)], .rp [.raw (.int .i64 ((m : Nat) : Int))]]) := by
  refine pure_of_body Try.func72 body72 (Nat.le_of_ble_eq_true rfl) (by simp) (by simp) ?_
  refine w_keep [(0, .sl 2 b (stops.map stopAV)), (1, .sl 1 b2 (caps.map intAV)), (2, .raw (.int .i64 ((m : Nat) : Int)))] ⟨rfl, rfl, rfl, trivial⟩ ?_
  unfold c72
  refine awp_seq ?_
  refine w_reg (l := r72_0.toList) rfl r72_0_ok ?_
  refine a_op rfl (o_box (N := 0) rfl (by rfl) rfl rfl) ?_
  refine a_op rfl (o_box (N := 1) rfl (by rfl) rfl rfl) ?_
  refine a_op rfl (o_box (N := 2) rfl (by rfl) rfl rfl) ?_
  refine a_op rfl (o_as rfl) ?_
  refine a_nil ?_
  refine tq_n ?_
  refine awp_seq ?_
  refine w_reg (l := r72_1.toList) rfl r72_1_ok ?_
  refine a_op rfl (o_mf rfl rfl) ?_
  refine a_op rfl (o_as rfl) ?_
  refine a_nil ?_
  refine tq_n ?_
  refine awp_ret ?_
  refine r_one rfl ⟨rfl, trivial⟩ ?_
  exact rs_fn trivial ⟨rs_ptr id rfl rfl ⟨rs_pur (by simp) rfl, trivial⟩, rs_ptr id rfl rfl ⟨rs_pur (by simp) rfl, trivial⟩, rs_ptr id rfl rfl ⟨rs_pur (by simp) rfl, trivial⟩, trivial⟩
noncomputable def r24_0 : Array Oper := opsAt Try.f24 [0]
theorem r24_0_ok : dstOk 89 r24_0.toList = true ∧ r24_0.toList.all (fun o => noDefer o.op) = true := by decide +kernel
noncomputable def r24_1 : Array Oper := opsAt Try.f24 [1, 0, 0]
theorem r24_1_ok : dstOk 89 r24_1.toList = true ∧ r24_1.toList.all (fun o => noDefer o.op) = true := by decide +kernel
noncomputable def r24_2 : Array Oper := opsAt Try.f24 [1, 0, 1, 0, 0]
theorem r24_2_ok : dstOk 89 r24_2.toList = true ∧ r24_2.toList.all (fun o => noDefer o.op) = true := by decide +kernel
noncomputable def r24_3 : Array Oper := opsAt Try.f24 [1, 1, 0, 0]
theorem r24_3_ok : dstOk 89 r24_3.toList = true ∧ r24_3.toList.all (fun o => noDefer o.op) = true := by decide +kernel
noncomputable def r24_4 : Array Oper := opsAt Try.f24 [1, 1, 0, 1, 0, 0]
theorem r24_4_ok : dstOk 89 r24_4.toList = true ∧ r24_4.toList.all (fun o => noDefer o.op) = true := by decide +kernel
noncomputable def r24_5 : Array Oper := opsAt Try.f24 [1, 1, 1, 0, 0]
theorem r24_5_ok : dstOk 89 r24_5.toList = true ∧ r24_5.toList.all (fun o => noDefer o.op) = true := by decide +kernel
noncomputable def r24_6 : Array Oper := opsAt Try.f24 [1, 1, 1, 0, 1, 0, 0]
theorem r24_6_ok : dstOk 89 r24_6.toList = true ∧ r24_6.toList.all (fun o => noDefer o.op) = true := by decide +kernel
noncomputable def r24_7 : Array Oper := opsAt Try.f24 [1, 1, 1, 1, 0, 0]
theorem r24_7_ok : dstOk 89 r24_7.toList = true ∧ r24_7.toList.all (fun o => noDefer o.op) = true := by decide +kernel
noncomputable def r24_8 : Array Oper := opsAt Try.f24 [1, 1, 1, 1, 0, 1, 0, 0, 0, 0]
theorem r24_8_ok : dstOk 89 r24_8.toList = true ∧ r24_8.toList.all (fun o => noDefer o.op) = true := by decide +kernel
noncomputable def r24_10 : Array Oper := opsAt Try.f24 [1, 1, 1, 1, 0, 1, 0, 0, 1, 0, 0, 0]
theorem r24_10_ok : dstOk 89 r24_10.toList = true ∧ r24_10.toList.all (fun o => noDefer o.op) = true := by decide +kernel
noncomputable def r24_11 : Array Oper := opsAt Try.f24 [1, 1, 1, 1, 0, 1, 0, 0, 1, 0, 0, 1, 0, 0]
theorem r24_11_ok : dstOk 89 r24_11.toList = true ∧ r24_11.toList.all (fun o => noDefer o.op) = true := by decide +kernel
noncomputable def r24_12 : Array Oper := opsAt Try.f24 [1, 1, 1, 1, 0, 1, 0, 0, 1, 0, 0, 1, 0, 1, 0, 0]
theorem r24_12_ok : dstOk 89 r24_12.toList = true ∧ r24_12.toList.all (fun o => noDefer o.op) = true := by decide +kernel
noncomputable def r24_13 : Array Oper := opsAt Try.f24 [1, 1, 1, 1, 0, 1, 0, 0, 1, 0, 0, 1, 0, 1, 0, 1, 0, 0]
theorem r24_13_ok : dstOk 89 r24_13.toList = true ∧ r24_13.toList.all (fun o => noDefer o.op) = true := by decide +kernel
noncomputable def r24_14 : Array Oper := opsAt Try.f24 [1, 1, 1, 1, 0, 1, 0, 0, 1, 0, 0, 1, 0, 1, 0, 1, 0, 1, 0]
theorem r24_14_ok : dstOk 89 r24_14.toList = true ∧ r24_14.toList.all (fun o => noDefer o.op) = true := by decide +kernel
noncomputable def r24_15 : Array Oper := opsAt Try.f24 [1, 1, 1, 1, 0, 1, 0, 0, 1, 0, 0, 1, 0, 1, 0, 1, 0, 1, 1]
theorem r24_15_ok : dstOk 89 r24_15.toList = true ∧ r24_15.toList.all (fun o => noDefer o.op) = true := by decide +kernel
noncomputable def b24_0 : Code := (.region 12 r24_12 false)
noncomputable def b24_1 : Code := (.block 3 (.seq (.region 13 r24_13 false) (.seq (.region 14 r24_14 true) (.region 15 r24_15 true))))
noncomputable def r24_16 : Array Oper := opsAt Try.f24 [1, 1, 1, 1, 0, 1, 0, 0, 1, 0, 0, 1, 1, 0]
theorem r24_16_ok : dstOk 89 r24_16.toList = true ∧ r24_16.toList.all (fun o => noDefer o.op) = true := by decide +kernel
noncomputable def r24_17 : Array Oper := opsAt Try.f24 [1, 1, 1, 1, 0, 1, 0, 0, 1, 0, 0, 1, 1, 1, 0, 0]
theorem r24_17_ok : dstOk 89 r24_17.toList = true ∧ r24_17.toList.all (fun o => noDefer o.op) = true := by decide +kernel
noncomputable def r24_9 : Array Oper := opsAt Try.f24 [1, 1, 1, 1, 0, 1, 0, 0, 1, 1]
theorem r24_9_ok : dstOk 89 r24_9.toList = true ∧ r24_9.toList.all (fun o => noDefer o.op) = true := by decide +kernel
noncomputable def b24_2 : Code := (.seq (.seq (.region 8 r24_8 false) (.cond (.tmp 32) .skip (.exit 0))) (.seq (.block 1 (.seq (.region 10 r24_10 true) (.seq (.seq (.region 11 r24_11 false) (.block 2 (.rangeFunc (.tmp 47) #[48] b24_0 b24_1))) (.seq (.region 16 r24_16 false) (.cond (.tmp 86) (.seq (.region 17 r24_17 false) .ret) .skip))))) (.region 9 r24_9 false)))
noncomputable def r24_18 : Array Oper := opsAt Try.f24 [1, 1, 1, 1, 1, 0]
theorem r24_18_ok : dstOk 89 r24_18.toList = true ∧ r24_18.toList.all (fun o => noDefer o.op) = true := by decide +kernel
noncomputable def c24 : Code := (.seq (.region 0 r24_0 false) (.seq (.seq (.region 1 r24_1 false) (.cond (.tmp 11) (.seq (.region 2 r24_2 false) .ret) .skip)) (.seq (.seq (.region 3 r24_3 false) (.cond (.tmp 15) (.seq (.region 4 r24_4 false) .ret) .skip)) (.seq (.seq (.region 5 r24_5 false) (.cond (.tmp 19) (.seq (.region 6 r24_6 false) .ret) .skip)) (.seq (.seq (.region 7 r24_7 false) (.block 0 (.loop b24_2))) (.seq (.region 18 r24_18 false) .ret))))))
theorem body24 : Try.f24.body = some c24 := by kernel_rfl

noncomputable def qM (b : Fl) (stops : List StopR) (b2 : Fl) (caps : List Int) (m : Nat) (st : LoopState) : LoopA := { state := st, pending := none, F := [(0, .sl 2 b (stops.map stopAV)), (1, .sl 1 b2 (caps.map intAV)), (4, .ptr 0 0), (6, .raw (.int .i64 ((m : Nat) : Int))), (7, .ptr 1 0), (47, .fn 110 [] [.rp [.sl 2 b (stops.map stopAV)], .rp [.sl 1 b2 (caps.map intAV)], .rp [.raw (.int .i64 ((m : Nat) : Int))]])], N := 89, params := #[48], assign := b24_0, body := b24_1 }
noncomputable def mB (caps : List Int) (m : Nat) (stops : List StopR) (i : Nat) : Heap := [.var [.raw (.slice none 0 0), .raw (.slice none 0 0), .raw (.slice none 0 0), .raw (.slice none 0 0)], .var [rowAV caps, .slo 4 i 0 i, .slo 2 1 0 caps.length, .slo 3 1 0 caps.length], .vec 1 1 ((loadS caps.length (·.fst) (tryS caps m stops) i).map intAV), .vec 1 1 ((loadS caps.length (·.snd) (tryS caps m stops) i).map intAV), .vec 4 i (((tryS caps m stops).take i).map seatAV)]
noncomputable def mM (b : Fl) (stops : List StopR) (b2 : Fl) (caps : List Int) (m : Nat) (i : Nat) (st : LoopState) : Heap := [.var [.raw (.slice none 0 0), .raw (.slice none 0 0), .raw (.slice none 0 0), .raw (.slice none 0 0)], .var [rowAV caps, .slo 4 i 0 i, .slo 2 1 0 caps.length, .slo 3 1 0 caps.length], .vec 1 1 ((loadS caps.length (·.fst) (tryS caps m stops) i).map intAV), .vec 1 1 ((loadS caps.length (·.snd) (tryS caps m stops) i).map intAV), .vec 4 i (((tryS caps m stops).take i).map seatAV), .loopo (qM b stops b2 caps m st)]
theorem pu_seat1 (l : List SeatR) (y : SeatR) : ∀ x ∈ l.map seatAV ++ [seatAV y], Pur x := by
  intro x hx
  rcases List.mem_append.1 hx with hx | hx
  · exact pu_seat _ x hx
  · simp at hx; subst hx; simp
theorem ors_loopS {H : Heap} {keep : Nat → Prop} {l : LoopA} (h : RsFr H keep l.F l.F) : ORs H keep (.loopo l) (.loopo l) := ors_loop h

noncomputable def r110_0 : Array Oper := opsAt Try.f110 [0]
theorem r110_0_ok : dstOk 61 r110_0.toList = true ∧ r110_0.toList.all (fun o => noDefer o.op) = true := by decide +kernel
noncomputable def r110_1 : Array Oper := opsAt Try.f110 [1, 0]
theorem r110_1_ok : dstOk 61 r110_1.toList = true ∧ r110_1.toList.all (fun o => noDefer o.op) = true := by decide +kernel
noncomputable def r110_2 : Array Oper := opsAt Try.f110 [1, 1, 0, 0, 0]
theorem r110_2_ok : dstOk 61 r110_2.toList = true ∧ r110_2.toList.all (fun o => noDefer o.op) = true := by decide +kernel
noncomputable def r110_3 : Array Oper := opsAt Try.f110 [1, 1, 0, 0, 1, 1, 0, 0, 0]
theorem r110_3_ok : dstOk 61 r110_3.toList = true ∧ r110_3.toList.all (fun o => noDefer o.op) = true := by decide +kernel
noncomputable def r110_4 : Array Oper := opsAt Try.f110 [1, 1, 0, 0, 1, 1, 0, 0, 1, 0, 0, 0, 0, 0]
theorem r110_4_ok : dstOk 61 r110_4.toList = true ∧ r110_4.toList.all (fun o => noDefer o.op) = true := by decide +kernel
noncomputable def r110_5 : Array Oper := opsAt Try.f110 [1, 1, 0, 0, 1, 1, 0, 0, 1, 0, 0, 0, 1, 0]
theorem r110_5_ok : dstOk 61 r110_5.toList = true ∧ r110_5.toList.all (fun o => noDefer o.op) = true := by decide +kernel
noncomputable def b110_0 : Code := (.seq (.seq (.region 4 r110_4 true) (.cond (.tmp 35) .skip (.exit 2))) (.block 3 (.region 5 r110_5 false)))
noncomputable def r110_6 : Array Oper := opsAt Try.f110 [1, 1, 0, 0, 1, 1, 0, 0, 1, 1, 0, 0]
theorem r110_6_ok : dstOk 61 r110_6.toList = true ∧ r110_6.toList.all (fun o => noDefer o.op) = true := by decide +kernel
noncomputable def r110_7 : Array Oper := opsAt Try.f110 [1, 1, 0, 0, 1, 1, 0, 0, 1, 1, 1]
theorem r110_7_ok : dstOk 61 r110_7.toList = true ∧ r110_7.toList.all (fun o => noDefer o.op) = true := by decide +kernel
noncomputable def r110_8 : Array Oper := opsAt Try.f110 [1, 1, 0, 0, 1, 1, 1]
theorem r110_8_ok : dstOk 61 r110_8.toList = true ∧ r110_8.toList.all (fun o => noDefer o.op) = true := by decide +kernel
noncomputable def b110_1 : Code := (.seq (.region 2 r110_2 false) (.seq (.cond (.tmp 13) .skip (.exit 0)) (.seq (.block 1 (.seq (.region 3 r110_3 false) (.seq (.block 2 (.loop b110_0)) (.seq (.seq (.region 6 r110_6 false) (.cond (.tmp 53) .ret .skip)) (.region 7 r110_7 true))))) (.region 8 r110_8 false))))
noncomputable def c110 : Code := (.seq (.region 0 r110_0 false) (.seq (.region 1 r110_1 false) (.block 0 (.loop b110_1))))
theorem body110 : Try.f110.body = some c110 := by kernel_rfl
theorem seats1_ok (b : Fl) (stops : List StopR) (hl : stops.length ≤ 1000) (hsv : ∀ x ∈ stops, 1 ≤ x.vol ∧ x.vol ≤ 10000) (b2 : Fl) (caps : List Int) (hcl : caps.length ≤ 64) (hcv : ∀ c ∈ caps, 1 ≤ c ∧ c ≤ 100000) (m : Nat) (hm : m ≤ caps.length) (hz : GI caps m stops 0) (htv : ∀ x ∈ (tryS caps m stops), 0 ≤ x.vol ∧ x.vol ≤ 10000) : ACall Try.prog GL 110 [.yl 5, .rp [.sl 2 b (stops.map stopAV)], .rp [.sl 1 b2 (caps.map intAV)], .rp [.raw (.int .i64 ((m : Nat) : Int))]] (mM b stops b2 caps m 0 .ready) (fun r H' => r = .tup [] ∧ H' = mM b stops b2 caps m (tryS caps m stops).length .ready) := by
  refine acall_of_body Try.func110 body110 (Nat.le_of_ble_eq_true rfl) ?_
  refine w_keep [(0, .yl 5), (1, .rp [.sl 2 b (stops.map stopAV)]), (2, .rp [.sl 1 b2 (caps.map intAV)]), (3, .rp [.raw (.int .i64 ((m : Nat) : Int))])] ⟨rfl, rfl, rfl, rfl, trivial⟩ ?_
  unfold c110
  refine awp_seq ?_
  refine w_reg (l := r110_0.toList) rfl r110_0_ok ?_
  refine a_op rfl (o_as rfl) ?_
  refine a_op rfl (o_as rfl) ?_
  refine a_op rfl (o_as rfl) ?_
  refine a_nil ?_
  refine tq_n ?_
  refine awp_seq ?_
  refine w_reg (l := r110_1.toList) rfl r110_1_ok ?_
  refine a_op rfl ((by first | exact o_ld tg46 rfl rfl | exact o_ldp tg46 rfl rfl rfl rfl)) ?_
  refine a_op rfl (o_len rfl rfl (by first | exact List.length_map .. | rfl) tl46) ?_
  refine a_op rfl (o_mv rfl) ?_
  refine a_nil ?_
  refine tq_n ?_
  refine awp_block ?_
  refine w_loop (fun i : Nat => GI caps m stops i) (fun i => [(0, .yl 5), (1, .rp [.sl 2 b (stops.map stopAV)]), (2, .rp [.sl 1 b2 (caps.map intAV)]), (3, .rp [.raw (.int .i64 ((m : Nat) : Int))]), (5, .raw (.int .i64 (((gsAt caps m stops i).at_ : Nat) : Int))), (6, .raw (.int .i64 ((gsAt caps m stops i).many))), (7, .raw (.int .i64 ((gsAt caps m stops i).load))), (10, .sl 2 b (stops.map stopAV)), (11, .raw (.int .i64 ((stops.length : Nat) : Int))), (12, .raw (.int .i64 ((i : Nat) : Int)))]) (fun i => mM b stops b2 caps m i .ready) (fun i => stops.length - i) (0) hz ⟨(by first | exact sub_int rfl (by omega) | rfl | exact sub_int rfl (by rw [hst]) | exact sub_int rfl (by rw [hgn]; rfl)), (by first | exact sub_int rfl (by omega) | rfl | exact sub_int rfl (by rw [hst]) | exact sub_int rfl (by rw [hgn]; rfl)), (by first | exact sub_int rfl (by omega) | rfl | exact sub_int rfl (by rw [hst]) | exact sub_int rfl (by rw [hgn]; rfl)), (by first | exact sub_int rfl (by omega) | rfl | exact sub_int rfl (by rw [hst]) | exact sub_int rfl (by rw [hgn]; rfl)), (by first | exact sub_int rfl (by omega) | rfl | exact sub_int rfl (by rw [hst]) | exact sub_int rfl (by rw [hgn]; rfl)), (by first | exact sub_int rfl (by omega) | rfl | exact sub_int rfl (by rw [hst]) | exact sub_int rfl (by rw [hgn]; rfl)), (by first | exact sub_int rfl (by omega) | rfl | exact sub_int rfl (by rw [hst]) | exact sub_int rfl (by rw [hgn]; rfl)), (by first | exact sub_int rfl (by omega) | rfl | exact sub_int rfl (by rw [hst]) | exact sub_int rfl (by rw [hgn]; rfl)), (by first | exact sub_int rfl (by omega) | rfl | exact sub_int rfl (by rw [hst]) | exact sub_int rfl (by rw [hgn]; rfl)), (by first | exact sub_int rfl (by omega) | rfl | exact sub_int rfl (by rw [hst]) | exact sub_int rfl (by rw [hgn]; rfl)), trivial⟩ rfl ?_
  intro i hp
  have hpi := hp.hi; have hpa := hp.ha; have hpm := hp.hm; have hpl := hp.hl
  unfold b110_1
  refine awp_seq ?_
  refine w_reg (l := r110_2.toList) rfl r110_2_ok ?_
  refine a_if rfl (o_lt rfl rfl) (fun h1 => ?_) (fun h2 => ?_)
  · refine a_nil ?_
    refine tq_n ?_
    refine awp_seq ?_
    refine w_true rfl ?_
    refine awp_skip ?_
    refine tq_n ?_
    refine awp_seq ?_
    refine awp_block ?_
    refine awp_seq ?_
    have hi : i < stops.length := by omega
    have hvi := hsv _ (List.getElem_mem hi)
    refine w_reg (l := r110_3.toList) rfl r110_3_ok ?_
    refine a_op rfl (o_ix te46 tn48 rfl rfl rfl (ixm _ _ _ hi)) ?_
    refine a_op rfl ((by first | exact o_ldg tg48 tn48 rfl rfl | exact o_ldpg tg48 tn48 rfl rfl rfl rfl)) ?_
    refine a_op rfl (o_al (N := 6) tz48 rfl rfl rfl) ?_
    refine a_op0 rfl (o_st (N := 1) tn48 rfl rfl (by first | exact good_slo rfl | rfl) rfl rfl) ?_
    refine a_nil ?_
    refine tq_n ?_
    refine w_join (fun _ : Unit => True) (fun _ => [(9, .ptr 6 0), (0, .yl 5), (1, .rp [.sl 2 b (stops.map stopAV)]), (2, .rp [.sl 1 b2 (caps.map intAV)]), (3, .rp [.raw (.int .i64 ((m : Nat) : Int))]), (5, .raw (.int .i64 (((adv caps m stops[i].vol (gsAt caps m stops i)).at_ : Nat) : Int))), (6, .raw (.int .i64 ((adv caps m stops[i].vol (gsAt caps m stops i)).many))), (7, .raw (.int .i64 ((adv caps m stops[i].vol (gsAt caps m stops i)).load))), (10, .sl 2 b (stops.map stopAV)), (11, .raw (.int .i64 ((stops.length : Nat) : Int))), (12, .raw (.int .i64 ((i : Nat) : Int)))]) (fun _ => [.var [.raw (.slice none 0 0), .raw (.slice none 0 0), .raw (.slice none 0 0), .raw (.slice none 0 0)], .var [rowAV caps, .slo 4 i 0 i, .slo 2 1 0 caps.length, .slo 3 1 0 caps.length], .vec 1 1 ((loadS caps.length (·.fst) (tryS caps m stops) i).map intAV), .vec 1 1 ((loadS caps.length (·.snd) (tryS caps m stops) i).map intAV), .vec 4 i (((tryS caps m stops).take i).map seatAV), .loopo (qM b stops b2 caps m .ready), .var (stopAV stops[i]).cells]) ?_ ?_
    · refine awp_block ?_
      refine w_loop (fun s : GS => adv caps m stops[i].vol s = (adv caps m stops[i].vol (gsAt caps m stops i)) ∧ s.at_ ≤ caps.length ∧ 0 ≤ s.load ∧ s.load ≤ 10000000) (fun s => [(9, .ptr 6 0), (0, .yl 5), (1, .rp [.sl 2 b (stops.map stopAV)]), (2, .rp [.sl 1 b2 (caps.map intAV)]), (3, .rp [.raw (.int .i64 ((m : Nat) : Int))]), (5, .raw (.int .i64 ((s.at_ : Nat) : Int))), (6, .raw (.int .i64 (s.many))), (7, .raw (.int .i64 (s.load))), (10, .sl 2 b (stops.map stopAV)), (11, .raw (.int .i64 ((stops.length : Nat) : Int))), (12, .raw (.int .i64 ((i : Nat) : Int)))]) (fun _ => [.var [.raw (.slice none 0 0), .raw (.slice none 0 0), .raw (.slice none 0 0), .raw (.slice none 0 0)], .var [rowAV caps, .slo 4 i 0 i, .slo 2 1 0 caps.length, .slo 3 1 0 caps.length], .vec 1 1 ((loadS caps.length (·.fst) (tryS caps m stops) i).map intAV), .vec 1 1 ((loadS caps.length (·.snd) (tryS caps m stops) i).map intAV), .vec 4 i (((tryS caps m stops).take i).map seatAV), .loopo (qM b stops b2 caps m .ready), .var (stopAV stops[i]).cells]) (fun s => caps.length - s.at_) ((gsAt caps m stops i)) ⟨rfl, hpa, by omega, by omega⟩ ⟨(by first | exact sub_int rfl (by omega) | rfl | exact sub_int rfl (by rw [hst]) | exact sub_int rfl (by rw [hgn]; rfl)), (by first | exact sub_int rfl (by omega) | rfl | exact sub_int rfl (by rw [hst]) | exact sub_int rfl (by rw [hgn]; rfl)), (by first | exact sub_int rfl (by omega) | rfl | exact sub_int rfl (by rw [hst]) | exact sub_int rfl (by rw [hgn]; rfl)), (by first | exact sub_int rfl (by omega) | rfl | exact sub_int rfl (by rw [hst]) | exact sub_int rfl (by rw [hgn]; rfl)), (by first | exact sub_int rfl (by omega) | rfl | exact sub_int rfl (by rw [hst]) | exact sub_int rfl (by rw [hgn]; rfl)), (by first | exact sub_int rfl (by omega) | rfl | exact sub_int rfl (by rw [hst]) | exact sub_int rfl (by rw [hgn]; rfl)), (by first | exact sub_int rfl (by omega) | rfl | exact sub_int rfl (by rw [hst]) | exact sub_int rfl (by rw [hgn]; rfl)), (by first | exact sub_int rfl (by omega) | rfl | exact sub_int rfl (by rw [hst]) | exact sub_int rfl (by rw [hgn]; rfl)), (by first | exact sub_int rfl (by omega) | rfl | exact sub_int rfl (by rw [hst]) | exact sub_int rfl (by rw [hgn]; rfl)), (by first | exact sub_int rfl (by omega) | rfl | exact sub_int rfl (by rw [hst]) | exact sub_int rfl (by rw [hgn]; rfl)), (by first | exact sub_int rfl (by omega) | rfl | exact sub_int rfl (by rw [hst]) | exact sub_int rfl (by rw [hgn]; rfl)), trivial⟩ rfl ?_
      intro s ⟨hs1, hs2, hs3, hs4⟩
      unfold b110_0
      refine awp_seq ?_
      refine awp_seq ?_
      refine awp_draw ⟨[[], [], [1], [0, 1, 2], [0, 1, 2, 3], [0, 1, 2, 3, 4], [0, 1, 2, 3, 4], [0, 1, 2, 3, 4, 5, 6], [0, 1, 2, 3, 4, 5, 6, 7], [0, 1, 2, 3, 4, 5, 6, 7, 8], [0, 1, 2, 3, 4, 5, 6, 7, 8], [0, 1, 2, 3, 4, 5, 6, 7, 8, 10], [0, 1, 2, 3, 4, 5, 6, 7, 8, 9, 10, 11], [0, 1, 2, 3, 4, 5, 6, 7, 8], [0, 1, 2, 3, 4, 5, 6, 7, 8], [0, 1, 2, 3, 4, 5, 6, 7, 8, 13, 14], [0, 1, 2, 3, 4, 5, 6, 7, 8, 13, 14, 15], [0, 1, 2, 3, 4, 5, 6, 7, 8, 9, 10, 11, 12, 13, 14, 15, 16], [0, 1, 2, 3, 4, 5, 6, 7, 8, 9, 10, 11, 12, 13, 14, 15, 16, 17], [0, 1, 2, 3, 4, 5, 6, 7, 8, 9, 10, 11, 12, 13, 14, 15, 16, 17, 18]], [[5], [2], [17], [16, 18], [19], [6, 20], [3, 20], [20, 21, 22], [20, 23], [7, 24], [9, 24], [24, 26], [24, 25, 27], [2, 24], [5, 24], [24, 29, 30], [24, 31], [24, 28, 32], [20, 24, 33], [20, 34]], [[], [], [], [], [], [], [], [], [], [], [], [6], [], [], [], [], [], [], [], []], [none, none, none, none, none, none, none, none, none, none, none, none, none, none, none, none, none, none, none, none]⟩ mo r110_4_ok (by decide +kernel) (l := r110_4.toList) rfl ?_
      refine d_op rfl rfl rfl (fun _ => o_mv rfl) ?_
      refine d_op rfl rfl rfl (fun _ => (by first | exact o_ld tg34 rfl rfl | exact o_ldp tg34 rfl rfl rfl rfl)) ?_
      refine d_op rfl rfl rfl (fun _ => o_len rfl rfl (by first | exact List.length_map .. | rfl) tl34) ?_
      refine d_if rfl rfl rfl (fun _ => o_lt rfl rfl) (fun h3 => ?_) (fun h4 => ?_)
      · have hat : s.at_ < caps.length := by omega
        refine d_op rfl rfl rfl (fun _ => o_mv rfl) ?_
        refine d_op rfl rfl rfl (fun _ => o_mv rfl) ?_
        refine d_op rfl rfl rfl (fun _ => (by first | exact o_ld tg3 rfl rfl | exact o_ldp tg3 rfl rfl rfl rfl)) ?_
        refine d_if rfl rfl rfl (fun _ => o_eq rfl rfl) (fun h5 => ?_) (fun h6 => ?_)
        · refine d_op rfl rfl rfl (fun _ => o_mv rfl) ?_
          refine d_off rfl rfl ?_
          refine d_off rfl rfl ?_
          refine d_off rfl rfl ?_
          refine d_off rfl rfl ?_
          refine d_off rfl rfl ?_
          refine d_off rfl rfl ?_
          refine d_off rfl rfl ?_
          refine d_off rfl rfl ?_
          refine d_off rfl rfl ?_
          refine d_op rfl rfl rfl (fun _ => o_pkt rfl rfl) ?_
          refine d_op rfl rfl rfl (fun _ => o_pkt rfl rfl) ?_
          refine d_nil ?_
          refine tq_n ?_
          refine w_true rfl ?_
          refine awp_skip ?_
          refine tq_n ?_
          refine awp_block ?_
          refine w_reg (l := r110_5.toList) rfl r110_5_ok ?_
          refine a_op rfl (o_mv rfl) ?_
          refine a_op rfl (o_add rfl rfl (by simp only [klo, khi]; omega)) ?_
          refine a_op rfl (o_as rfl) ?_
          refine a_op rfl (o_as rfl) ?_
          refine a_op rfl (o_as rfl) ?_
          refine a_nil ?_
          refine bq_n ?_
          refine tq_n ?_
          exact ⟨⟨s.at_ + 1, 0, 0⟩, ⟨⟨by rw [← hs1]; exact (adv_step hat (by first | exact .inl (by omega) | exact .inr (by rw [getDi hat]; omega))).symm, by dsimp only; omega, by dsimp only; omega, by dsimp only; omega⟩, by dsimp only; omega⟩, ⟨(by first | exact sub_int rfl (by omega) | rfl | exact sub_int rfl (by rw [hst]) | exact sub_int rfl (by rw [hgn]; rfl)), (by first | exact sub_int rfl (by omega) | rfl | exact sub_int rfl (by rw [hst]) | exact sub_int rfl (by rw [hgn]; rfl)), (by first | exact sub_int rfl (by omega) | rfl | exact sub_int rfl (by rw [hst]) | exact sub_int rfl (by rw [hgn]; rfl)), (by first | exact sub_int rfl (by omega) | rfl | exact sub_int rfl (by rw [hst]) | exact sub_int rfl (by rw [hgn]; rfl)), (by first | exact sub_int rfl (by omega) | rfl | exact sub_int rfl (by rw [hst]) | exact sub_int rfl (by rw [hgn]; rfl)), (by first | exact sub_int rfl (by omega) | rfl | exact sub_int rfl (by rw [hst]) | exact sub_int rfl (by rw [hgn]; rfl)), (by first | exact sub_int rfl (by omega) | rfl | exact sub_int rfl (by rw [hst]) | exact sub_int rfl (by rw [hgn]; rfl)), (by first | exact sub_int rfl (by omega) | rfl | exact sub_int rfl (by rw [hst]) | exact sub_int rfl (by rw [hgn]; rfl)), (by first | exact sub_int rfl (by omega) | rfl | exact sub_int rfl (by rw [hst]) | exact sub_int rfl (by rw [hgn]; rfl)), (by first | exact sub_int rfl (by omega) | rfl | exact sub_int rfl (by rw [hst]) | exact sub_int rfl (by rw [hgn]; rfl)), (by first | exact sub_int rfl (by omega) | rfl | exact sub_int rfl (by rw [hst]) | exact sub_int rfl (by rw [hgn]; rfl)), trivial⟩, rfl⟩
        refine d_op rfl rfl rfl (fun _ => o_mv rfl) ?_
        refine d_op rfl rfl rfl (fun _ => o_mv rfl) ?_
        refine d_op rfl rfl rfl (fun _ => (by first | exact o_fa tf48_1 rfl rfl | exact o_fap tf48_1 rfl rfl)) ?_
        refine d_op rfl rfl rfl (fun _ => (by first | exact o_ld tg3 rfl rfl | exact o_ldp tg3 rfl rfl rfl rfl)) ?_
        refine d_op rfl rfl rfl (fun _ => o_add rfl rfl (by simp only [klo, khi]; omega)) ?_
        refine d_op rfl rfl rfl (fun _ => (by first | exact o_ld tg34 rfl rfl | exact o_ldp tg34 rfl rfl rfl rfl)) ?_
        refine d_op rfl rfl rfl (fun _ => o_mv rfl) ?_
        refine d_op rfl rfl rfl (fun _ => o_ix te34 tn3 rfl rfl rfl (ixm _ _ _ hat)) ?_
        refine d_op rfl rfl rfl (fun _ => (by first | exact o_ld tg3 rfl rfl | exact o_ldp tg3 rfl rfl rfl rfl)) ?_
        refine d_if rfl rfl rfl (fun _ => o_gt rfl rfl) (fun h7 => ?_) (fun h8 => ?_)
        · refine d_op rfl rfl rfl (fun _ => o_pkf rfl rfl) ?_
          refine d_op rfl rfl rfl (fun _ => o_pkt rfl rfl) ?_
          refine d_nil ?_
          refine tq_n ?_
          refine w_true rfl ?_
          refine awp_skip ?_
          refine tq_n ?_
          refine awp_block ?_
          refine w_reg (l := r110_5.toList) rfl r110_5_ok ?_
          refine a_op rfl (o_mv rfl) ?_
          refine a_op rfl (o_add rfl rfl (by simp only [klo, khi]; omega)) ?_
          refine a_op rfl (o_as rfl) ?_
          refine a_op rfl (o_as rfl) ?_
          refine a_op rfl (o_as rfl) ?_
          refine a_nil ?_
          refine bq_n ?_
          refine tq_n ?_
          exact ⟨⟨s.at_ + 1, 0, 0⟩, ⟨⟨by rw [← hs1]; exact (adv_step hat (by first | exact .inl (by omega) | exact .inr (by rw [getDi hat]; omega))).symm, by dsimp only; omega, by dsimp only; omega, by dsimp only; omega⟩, by dsimp only; omega⟩, ⟨(by first | exact sub_int rfl (by omega) | rfl | exact sub_int rfl (by rw [hst]) | exact sub_int rfl (by rw [hgn]; rfl)), (by first | exact sub_int rfl (by omega) | rfl | exact sub_int rfl (by rw [hst]) | exact sub_int rfl (by rw [hgn]; rfl)), (by first | exact sub_int rfl (by omega) | rfl | exact sub_int rfl (by rw [hst]) | exact sub_int rfl (by rw [hgn]; rfl)), (by first | exact sub_int rfl (by omega) | rfl | exact sub_int rfl (by rw [hst]) | exact sub_int rfl (by rw [hgn]; rfl)), (by first | exact sub_int rfl (by omega) | rfl | exact sub_int rfl (by rw [hst]) | exact sub_int rfl (by rw [hgn]; rfl)), (by first | exact sub_int rfl (by omega) | rfl | exact sub_int rfl (by rw [hst]) | exact sub_int rfl (by rw [hgn]; rfl)), (by first | exact sub_int rfl (by omega) | rfl | exact sub_int rfl (by rw [hst]) | exact sub_int rfl (by rw [hgn]; rfl)), (by first | exact sub_int rfl (by omega) | rfl | exact sub_int rfl (by rw [hst]) | exact sub_int rfl (by rw [hgn]; rfl)), (by first | exact sub_int rfl (by omega) | rfl | exact sub_int rfl (by rw [hst]) | exact sub_int rfl (by rw [hgn]; rfl)), (by first | exact sub_int rfl (by omega) | rfl | exact sub_int rfl (by rw [hst]) | exact sub_int rfl (by rw [hgn]; rfl)), (by first | exact sub_int rfl (by omega) | rfl | exact sub_int rfl (by rw [hst]) | exact sub_int rfl (by rw [hgn]; rfl)), trivial⟩, rfl⟩
        refine d_op rfl rfl rfl (fun _ => o_pkf rfl rfl) ?_
        refine d_op rfl rfl rfl (fun _ => o_pkt rfl rfl) ?_
        refine d_nil ?_
        refine tq_n ?_
        refine w_false rfl ?_
        refine awp_exit ?_
        refine tq_x ?_
        refine tq_x ?_
        refine bq_hit ?_
        refine tq_n ?_
        have hst : (adv caps m stops[i].vol (gsAt caps m stops i)) = s := hs1.symm.trans (adv_stop (fun h7 => by first | omega | (rw [getDi h7]; omega)))
        exact ⟨(), trivial, ⟨(by first | exact sub_int rfl (by omega) | rfl | exact sub_int rfl (by rw [hst]) | exact sub_int rfl (by rw [hgn]; rfl)), (by first | exact sub_int rfl (by omega) | rfl | exact sub_int rfl (by rw [hst]) | exact sub_int rfl (by rw [hgn]; rfl)), (by first | exact sub_int rfl (by omega) | rfl | exact sub_int rfl (by rw [hst]) | exact sub_int rfl (by rw [hgn]; rfl)), (by first | exact sub_int rfl (by omega) | rfl | exact sub_int rfl (by rw [hst]) | exact sub_int rfl (by rw [hgn]; rfl)), (by first | exact sub_int rfl (by omega) | rfl | exact sub_int rfl (by rw [hst]) | exact sub_int rfl (by rw [hgn]; rfl)), (by first | exact sub_int rfl (by omega) | rfl | exact sub_int rfl (by rw [hst]) | exact sub_int rfl (by rw [hgn]; rfl)), (by first | exact sub_int rfl (by omega) | rfl | exact sub_int rfl (by rw [hst]) | exact sub_int rfl (by rw [hgn]; rfl)), (by first | exact sub_int rfl (by omega) | rfl | exact sub_int rfl (by rw [hst]) | exact sub_int rfl (by rw [hgn]; rfl)), (by first | exact sub_int rfl (by omega) | rfl | exact sub_int rfl (by rw [hst]) | exact sub_int rfl (by rw [hgn]; rfl)), (by first | exact sub_int rfl (by omega) | rfl | exact sub_int rfl (by rw [hst]) | exact sub_int rfl (by rw [hgn]; rfl)), (by first | exact sub_int rfl (by omega) | rfl | exact sub_int rfl (by rw [hst]) | exact sub_int rfl (by rw [hgn]; rfl)), trivial⟩, rfl⟩
      refine d_op rfl rfl rfl (fun _ => o_mv rfl) ?_
      refine d_off rfl rfl ?_
      refine d_off rfl rfl ?_
      refine d_off rfl rfl ?_
      refine d_off rfl rfl ?_
      refine d_off rfl rfl ?_
      refine d_off rfl rfl ?_
      refine d_off rfl rfl ?_
      refine d_off rfl rfl ?_
      refine d_off rfl rfl ?_
      refine d_off rfl rfl ?_
      refine d_off rfl rfl ?_
      refine d_off rfl rfl ?_
      refine d_off rfl rfl ?_
      refine d_off rfl rfl ?_
      refine d_op rfl rfl rfl (fun _ => o_pkf rfl rfl) ?_
      refine d_nil ?_
      refine tq_n ?_
      refine w_false rfl ?_
      refine awp_exit ?_
      refine tq_x ?_
      refine tq_x ?_
      refine bq_hit ?_
      refine tq_n ?_
      have hst : (adv caps m stops[i].vol (gsAt caps m stops i)) = s := hs1.symm.trans (adv_stop (fun h7 => by first | omega | (rw [getDi h7]; omega)))
      exact ⟨(), trivial, ⟨(by first | exact sub_int rfl (by omega) | rfl | exact sub_int rfl (by rw [hst]) | exact sub_int rfl (by rw [hgn]; rfl)), (by first | exact sub_int rfl (by omega) | rfl | exact sub_int rfl (by rw [hst]) | exact sub_int rfl (by rw [hgn]; rfl)), (by first | exact sub_int rfl (by omega) | rfl | exact sub_int rfl (by rw [hst]) | exact sub_int rfl (by rw [hgn]; rfl)), (by first | exact sub_int rfl (by omega) | rfl | exact sub_int rfl (by rw [hst]) | exact sub_int rfl (by rw [hgn]; rfl)), (by first | exact sub_int rfl (by omega) | rfl | exact sub_int rfl (by rw [hst]) | exact sub_int rfl (by rw [hgn]; rfl)), (by first | exact sub_int rfl (by omega) | rfl | exact sub_int rfl (by rw [hst]) | exact sub_int rfl (by rw [hgn]; rfl)), (by first | exact sub_int rfl (by omega) | rfl | exact sub_int rfl (by rw [hst]) | exact sub_int rfl (by rw [hgn]; rfl)), (by first | exact sub_int rfl (by omega) | rfl | exact sub_int rfl (by rw [hst]) | exact sub_int rfl (by rw [hgn]; rfl)), (by first | exact sub_int rfl (by omega) | rfl | exact sub_int rfl (by rw [hst]) | exact sub_int rfl (by rw [hgn]; rfl)), (by first | exact sub_int rfl (by omega) | rfl | exact sub_int rfl (by rw [hst]) | exact sub_int rfl (by rw [hgn]; rfl)), (by first | exact sub_int rfl (by omega) | rfl | exact sub_int rfl (by rw [hst]) | exact sub_int rfl (by rw [hgn]; rfl)), trivial⟩, rfl⟩
    intro _ _
    refine awp_seq ?_
    refine awp_seq ?_
    refine w_reg (l := r110_6.toList) rfl r110_6_ok ?_
    refine a_op rfl (o_mv rfl) ?_
    refine a_op rfl ((by first | exact o_ld tg34 rfl rfl | exact o_ldp tg34 rfl rfl rfl rfl)) ?_
    refine a_op rfl (o_len rfl rfl (by first | exact List.length_map .. | rfl) tl34) ?_
    refine a_if rfl (o_eq rfl rfl) (fun h9 => ?_) (fun h10 => ?_)
    · refine a_op rfl (o_mv rfl) ?_
      refine a_off rfl ?_
      refine a_off rfl ?_
      refine a_off rfl ?_
      refine a_off rfl ?_
      refine a_off rfl ?_
      refine a_off rfl ?_
      refine a_off rfl ?_
      refine a_off rfl ?_
      refine a_off rfl ?_
      refine a_off rfl ?_
      refine a_op rfl (o_pkt rfl rfl) ?_
      refine a_nil ?_
      refine tq_n ?_
      refine w_true rfl ?_
      refine w_view [] (mM b stops b2 caps m i .ready) 6 rfl (Nat.le_of_ble_eq_true rfl) (Nat.le_of_ble_eq_true rfl) trivial ⟨ors_var ⟨rs_pur (by simp) rfl, rs_pur (by simp) rfl, rs_pur (by simp) rfl, rs_pur (by simp) rfl, trivial⟩, ors_var ⟨rs_pur (by simp) rfl, .sloK (Nat.le_of_ble_eq_true rfl), .sloK (Nat.le_of_ble_eq_true rfl), .sloK (Nat.le_of_ble_eq_true rfl), trivial⟩, ors_vec (pu_int _), ors_vec (pu_int _), ors_vec (pu_seat _), ors_loopS ⟨⟨_, rfl, rs_pur (by simp) rfl⟩, ⟨_, rfl, rs_pur (by simp) rfl⟩, ⟨_, rfl, .ptrK (Nat.le_of_ble_eq_true rfl)⟩, ⟨_, rfl, rs_pur (by simp) rfl⟩, ⟨_, rfl, .ptrK (Nat.le_of_ble_eq_true rfl)⟩, ⟨_, rfl, rs_pur (by simp) rfl⟩, trivial⟩, trivial⟩ ?_
      refine awp_ret ?_
      refine tq_r ?_
      refine bq_r ?_
      refine tq_r ?_
      refine tq_r ?_
      refine bq_r ?_
      refine r_none rfl trivial ?_
      refine ⟨rfl, ?_⟩
      rw [hp.stop hi (by omega)]
    have hne : (adv caps m stops[i].vol (gsAt caps m stops i)).at_ ≠ caps.length := by omega
    obtain ⟨hsl, hse, hnx, hm0, hm1, hat0, hgn⟩ := hp.next hi hne hvi
    have hq5 := hnx.hl
    rw [hgn] at hq5
    simp only [nxt] at hq5
    obtain ⟨k1, hk1⟩ : ∃ k : Nat, (adv caps m stops[i].vol (gsAt caps m stops i)).many = k := ⟨(adv caps m stops[i].vol (gsAt caps m stops i)).many.toNat, by omega⟩
    have hkc : k1 < caps.length := by omega
    have hF1 := loadS_len caps.length (·.fst) (tryS caps m stops) i
    have hF2 := loadS_len caps.length (·.snd) (tryS caps m stops) i
    have hn1 : k1 < (loadS caps.length (·.fst) (tryS caps m stops) i).length := by omega
    have hn2 : (adv caps m stops[i].vol (gsAt caps m stops i)).at_ < (loadS caps.length (·.snd) (tryS caps m stops) i).length := by omega
    have hTv : ∀ x ∈ (tryS caps m stops), 0 ≤ x.vol ∧ x.vol ≤ 10000 := htv
    have hv1 := loadS_bd caps.length (·.fst) (tryS caps m stops) hTv i (by omega) _ (List.getElem_mem hn1)
    have hv2 := loadS_bd caps.length (·.snd) (tryS caps m stops) hTv i (by omega) _ (List.getElem_mem hn2)
    have hat1 : ((loadS caps.length (·.fst) (tryS caps m stops) i).map intAV)[0 + k1]? = some (intAV (loadS caps.length (·.fst) (tryS caps m stops) i)[k1]) := by rw [Nat.zero_add]; exact mAt hn1
    have hat2 : ((loadS caps.length (·.snd) (tryS caps m stops) i).map intAV)[0 + (adv caps m stops[i].vol (gsAt caps m stops i)).at_]? = some (intAV (loadS caps.length (·.snd) (tryS caps m stops) i)[(adv caps m stops[i].vol (gsAt caps m stops i)).at_]) := by rw [Nat.zero_add]; exact mAt hn2
    refine a_op rfl (o_mv rfl) ?_
    refine a_op rfl (o_mv rfl) ?_
    refine a_op rfl ((by first | exact o_fa tf48_0 rfl rfl | exact o_fap tf48_0 rfl rfl)) ?_
    refine a_op rfl ((by first | exact o_ld tg3 rfl rfl | exact o_ldp tg3 rfl rfl rfl rfl)) ?_
    refine a_op rfl ((by first | exact o_fa tf48_1 rfl rfl | exact o_fap tf48_1 rfl rfl)) ?_
    refine a_op rfl ((by first | exact o_ld tg3 rfl rfl | exact o_ldp tg3 rfl rfl rfl rfl)) ?_
    refine a_op rfl (o_mv rfl) ?_
    refine a_op rfl (o_mv rfl) ?_
    refine a_op rfl (o_bd tz89 rfl tp89 rfl rfl) ?_
    refine a_yield (N := 7) (l := qM b stops b2 caps m .ready) rfl rfl rfl rfl rfl rfl rfl rfl ?_
    show AWp _ b24_0 _ _ _
    unfold b24_0
    refine w_keep [(0, .sl 2 b (stops.map stopAV)), (1, .sl 1 b2 (caps.map intAV)), (4, .ptr 0 0), (6, .raw (.int .i64 ((m : Nat) : Int))), (7, .ptr 1 0), (48, seatAV ⟨stops[i].id, stops[i].vol, (adv caps m stops[i].vol (gsAt caps m stops i)).many, (adv caps m stops[i].vol (gsAt caps m stops i)).at_⟩)] ⟨rfl, rfl, rfl, rfl, rfl, rfl, trivial⟩ ?_
    refine w_reg (l := r24_12.toList) rfl r24_12_ok ?_
    refine a_op rfl (o_al (N := 7) tz89 rfl rfl rfl) ?_
    refine a_op0 rfl (o_st (N := 3) tn89 rfl rfl (by first | exact good_slo rfl | rfl) rfl rfl) ?_
    refine a_nil ?_
    refine tq_n ?_
    refine ⟨_, rfl, rfl, rfl, _, rfl, ?_⟩
    show AWp _ b24_1 _ _ _
    unfold b24_1
    refine awp_block ?_
    refine awp_seq ?_
    refine w_reg (l := r24_13.toList) rfl r24_13_ok ?_
    refine a_op rfl ((by first | exact o_fa tf51_1 rfl rfl | exact o_fap tf51_1 rfl rfl)) ?_
    refine a_op rfl ((by first | exact o_ld tg49 rfl rfl | exact o_ldp tg49 rfl rfl rfl rfl)) ?_
    refine a_op rfl ((by first | exact o_ldg tg89 tn89 rfl rfl | exact o_ldpg tg89 tn89 rfl rfl rfl rfl)) ?_
    refine a_op rfl (o_bs tE49 (by decide) rfl rfl rfl) ?_
    refine a_op rfl (o_ap tE49 rfl rfl (by simp; omega) rfl rfl rfl (by simp; omega) (by simp; omega) rfl rfl rfl rfl) ?_
    refine a_op rfl ((by first | exact o_fa tf51_1 rfl rfl | exact o_fap tf51_1 rfl rfl)) ?_
    refine a_op0 rfl (o_st (N := 0) tn49 rfl rfl (by first | exact good_slo rfl | rfl) rfl rfl) ?_
    refine a_nil ?_
    refine tq_n ?_
    refine awp_seq ?_
    refine awp_draw ⟨[[], [0], [], [2], [0, 1, 2, 3], [0, 1, 2, 3, 4], [], [6], [0, 1, 2, 3, 4, 5, 6, 7], [0, 1, 2, 3, 4, 5, 6, 7, 8], [0, 1, 2, 3, 4, 5, 6, 7, 8, 9]], [[7], [55], [8], [57], [56, 58], [59], [8], [61], [60, 62], [56, 58], [63, 64]], [[], [1], [], [7], [2], [2], [], [7], [], [2], [2]], [none, none, none, none, none, none, none, none, none, none, some 2]⟩ mo r24_14_ok (by decide +kernel) (l := r24_14.toList) rfl ?_
    refine d_op rfl rfl rfl (fun _ => (by first | exact o_fa tf51_2 rfl rfl | exact o_fap tf51_2 rfl rfl)) ?_
    refine d_op rfl rfl rfl (fun _ => (by first | exact o_ld tg34 rfl rfl | exact o_ldp tg34 rfl rfl rfl rfl)) ?_
    refine d_op rfl rfl rfl (fun _ => (by first | exact o_fa tf89_2 rfl rfl | exact o_fap tf89_2 rfl rfl)) ?_
    refine d_op rfl rfl rfl (fun _ => (by first | exact o_ld tg3 rfl rfl | exact o_ldp tg3 rfl rfl rfl rfl)) ?_
    refine d_op rfl rfl rfl (fun _ => o_ixo (j := k1) te34 tn3 rfl rfl rfl hk1 hkc) ?_
    refine d_op rfl rfl rfl (fun _ => o_ldp (el := intAV (loadS caps.length (·.fst) (tryS caps m stops) i)[k1]) tg3 rfl rfl hat1 rfl) ?_
    refine d_op rfl rfl rfl (fun _ => (by first | exact o_fa tf89_1 rfl rfl | exact o_fap tf89_1 rfl rfl)) ?_
    refine d_op rfl rfl rfl (fun _ => (by first | exact o_ld tg3 rfl rfl | exact o_ldp tg3 rfl rfl rfl rfl)) ?_
    refine d_op rfl rfl rfl (fun _ => o_add rfl rfl (by simp only [klo, khi]; omega)) ?_
    refine d_op rfl rfl rfl (fun _ => o_ixo (j := k1) te34 tn3 rfl rfl rfl hk1 hkc) ?_
    refine d_w0 (ks := [2]) rfl rfl rfl (fun _ => o_stp (N := 0) (el := intAV (loadS caps.length (·.fst) (tryS caps m stops) i)[k1]) tn3 rfl rfl rfl rfl rfl hat1 rfl (Nat.le_refl _)) rfl rfl rfl ?_
    refine d_nil ?_
    refine tq_n ?_
    refine awp_draw ⟨[[], [0], [], [2], [0, 1, 2, 3], [0, 1, 2, 3, 4], [], [6], [0, 1, 2, 3, 4, 5, 6, 7], [0, 1, 2, 3, 4, 5, 6, 7, 8], [0, 1, 2, 3, 4, 5, 6, 7, 8, 9]], [[7], [65], [8], [67], [66, 68], [69], [8], [71], [70, 72], [66, 68], [73, 74]], [[], [1], [], [7], [3], [3], [], [7], [], [3], [3]], [none, none, none, none, none, none, none, none, none, none, some 3]⟩ mo r24_15_ok (by decide +kernel) (l := r24_15.toList) rfl ?_
    refine d_op rfl rfl rfl (fun _ => (by first | exact o_fa tf51_3 rfl rfl | exact o_fap tf51_3 rfl rfl)) ?_
    refine d_op rfl rfl rfl (fun _ => (by first | exact o_ld tg34 rfl rfl | exact o_ldp tg34 rfl rfl rfl rfl)) ?_
    refine d_op rfl rfl rfl (fun _ => (by first | exact o_fa tf89_3 rfl rfl | exact o_fap tf89_3 rfl rfl)) ?_
    refine d_op rfl rfl rfl (fun _ => (by first | exact o_ld tg3 rfl rfl | exact o_ldp tg3 rfl rfl rfl rfl)) ?_
    refine d_op rfl rfl rfl (fun _ => o_ixo (j := (adv caps m stops[i].vol (gsAt caps m stops i)).at_) te34 tn3 rfl rfl rfl rfl hat0) ?_
    refine d_op rfl rfl rfl (fun _ => o_ldp (el := intAV (loadS caps.length (·.snd) (tryS caps m stops) i)[(adv caps m stops[i].vol (gsAt caps m stops i)).at_]) tg3 rfl rfl hat2 rfl) ?_
    refine d_op rfl rfl rfl (fun _ => (by first | exact o_fa tf89_1 rfl rfl | exact o_fap tf89_1 rfl rfl)) ?_
    refine d_op rfl rfl rfl (fun _ => (by first | exact o_ld tg3 rfl rfl | exact o_ldp tg3 rfl rfl rfl rfl)) ?_
    refine d_op rfl rfl rfl (fun _ => o_add rfl rfl (by simp only [klo, khi]; omega)) ?_
    refine d_op rfl rfl rfl (fun _ => o_ixo (j := (adv caps m stops[i].vol (gsAt caps m stops i)).at_) te34 tn3 rfl rfl rfl rfl hat0) ?_
    refine d_w0 (ks := [3]) rfl rfl rfl (fun _ => o_stp (N := 0) (el := intAV (loadS caps.length (·.snd) (tryS caps m stops) i)[(adv caps m stops[i].vol (gsAt caps m stops i)).at_]) tn3 rfl rfl rfl rfl rfl hat2 rfl (Nat.le_refl _)) rfl rfl rfl ?_
    refine d_nil ?_
    refine bq_n ?_
    refine q_next (i := 5) rfl rfl ?_
    refine a_op rfl (o_ntt rfl) ?_
    refine a_op rfl (o_pkf rfl rfl) ?_
    refine a_nil ?_
    refine tq_n ?_
    refine w_false rfl ?_
    refine awp_skip ?_
    refine tq_n ?_
    refine awp_draw ⟨[[], [0], [], [], [3], [2, 3, 4], [0, 1], [0, 1, 2, 3, 4, 5, 6]], [[6], [54], [7], [9], [57], [56, 58], [55], [59]], [[], [], [], [], [6], [], [], []], [none, none, none, none, none, none, none, none]⟩ mo r110_7_ok (by decide +kernel) (l := r110_7.toList) rfl ?_
    refine d_op rfl rfl rfl (fun _ => o_mv rfl) ?_
    refine d_op rfl rfl rfl (fun _ => o_add rfl rfl (by simp only [klo, khi]; omega)) ?_
    refine d_op rfl rfl rfl (fun _ => o_mv rfl) ?_
    refine d_op rfl rfl rfl (fun _ => (by first | exact o_fa tf48_1 rfl rfl | exact o_fap tf48_1 rfl rfl)) ?_
    refine d_op rfl rfl rfl (fun _ => (by first | exact o_ld tg3 rfl rfl | exact o_ldp tg3 rfl rfl rfl rfl)) ?_
    refine d_op rfl rfl rfl (fun _ => o_add rfl rfl (by simp only [klo, khi]; omega)) ?_
    refine d_op rfl rfl rfl (fun _ => o_as rfl) ?_
    refine d_op rfl rfl rfl (fun _ => o_as rfl) ?_
    refine d_nil ?_
    refine bq_n ?_
    refine tq_n ?_
    refine w_heq (H1 := [.var [.raw (.slice none 0 0), .raw (.slice none 0 0), .raw (.slice none 0 0), .raw (.slice none 0 0)], .var [rowAV caps, .slo 4 (i + 1) 0 (i + 1), .slo 2 1 0 caps.length, .slo 3 1 0 caps.length], .vec 1 1 (((loadS caps.length (·.fst) (tryS caps m stops) i).set k1 ((loadS caps.length (·.fst) (tryS caps m stops) i)[k1] + stops[i].vol)).map intAV), .vec 1 1 (((loadS caps.length (·.snd) (tryS caps m stops) i).set (adv caps m stops[i].vol (gsAt caps m stops i)).at_ ((loadS caps.length (·.snd) (tryS caps m stops) i)[(adv caps m stops[i].vol (gsAt caps m stops i)).at_] + stops[i].vol)).map intAV), .vec 4 (i + 1) (((tryS caps m stops).take i).map seatAV ++ [seatAV (seatAt (adv caps m stops[i].vol (gsAt caps m stops i)) stops[i])]), .loopo (qM b stops b2 caps m .ready), .var (stopAV stops[i]).cells, .var (seatAV (seatAt (adv caps m stops[i].vol (gsAt caps m stops i)) stops[i])).cells]) (by rw [Nat.zero_add, Nat.zero_add, List.map_set, List.map_set]; rfl) ?_
    refine w_view [(0, .yl 5), (1, .rp [.sl 2 b (stops.map stopAV)]), (2, .rp [.sl 1 b2 (caps.map intAV)]), (3, .rp [.raw (.int .i64 ((m : Nat) : Int))]), (5, .raw (.int .i64 (((adv caps m stops[i].vol (gsAt caps m stops i)).at_ : Nat) : Int))), (6, .raw (.int .i64 ((adv caps m stops[i].vol (gsAt caps m stops i)).many + 1))), (7, .raw (.int .i64 ((adv caps m stops[i].vol (gsAt caps m stops i)).load + stops[i].vol))), (10, .sl 2 b (stops.map stopAV)), (11, .raw (.int .i64 ((stops.length : Nat) : Int))), (12, .raw (.int .i64 ((i : Nat) : Int)))] ([.var [.raw (.slice none 0 0), .raw (.slice none 0 0), .raw (.slice none 0 0), .raw (.slice none 0 0)], .var [rowAV caps, .slo 4 (i + 1) 0 (i + 1), .slo 2 1 0 caps.length, .slo 3 1 0 caps.length], .vec 1 1 (((loadS caps.length (·.fst) (tryS caps m stops) i).set k1 ((loadS caps.length (·.fst) (tryS caps m stops) i)[k1] + stops[i].vol)).map intAV), .vec 1 1 (((loadS caps.length (·.snd) (tryS caps m stops) i).set (adv caps m stops[i].vol (gsAt caps m stops i)).at_ ((loadS caps.length (·.snd) (tryS caps m stops) i)[(adv caps m stops[i].vol (gsAt caps m stops i)).at_] + stops[i].vol)).map intAV), .vec 4 (i + 1) (((tryS caps m stops).take i).map seatAV ++ [seatAV (seatAt (adv caps m stops[i].vol (gsAt caps m stops i)) stops[i])]), .loopo (qM b stops b2 caps m .ready)]) 6 rfl (Nat.le_of_ble_eq_true rfl) (Nat.le_of_ble_eq_true rfl) ⟨⟨_, rfl, (by first | exact .ylK (Nat.le_of_ble_eq_true rfl) | exact .sloK (Nat.le_of_ble_eq_true rfl) | exact .ptrK (Nat.le_of_ble_eq_true rfl) | exact rs_pur (by simp) rfl)⟩, ⟨_, rfl, (by first | exact .ylK (Nat.le_of_ble_eq_true rfl) | exact .sloK (Nat.le_of_ble_eq_true rfl) | exact .ptrK (Nat.le_of_ble_eq_true rfl) | exact rs_pur (by simp) rfl)⟩, ⟨_, rfl, (by first | exact .ylK (Nat.le_of_ble_eq_true rfl) | exact .sloK (Nat.le_of_ble_eq_true rfl) | exact .ptrK (Nat.le_of_ble_eq_true rfl) | exact rs_pur (by simp) rfl)⟩, ⟨_, rfl, (by first | exact .ylK (Nat.le_of_ble_eq_true rfl) | exact .sloK (Nat.le_of_ble_eq_true rfl) | exact .ptrK (Nat.le_of_ble_eq_true rfl) | exact rs_pur (by simp) rfl)⟩, ⟨_, rfl, (by first | exact .ylK (Nat.le_of_ble_eq_true rfl) | exact .sloK (Nat.le_of_ble_eq_true rfl) | exact .ptrK (Nat.le_of_ble_eq_true rfl) | exact rs_pur (by simp) rfl)⟩, ⟨_, rfl, (by first | exact .ylK (Nat.le_of_ble_eq_true rfl) | exact .sloK (Nat.le_of_ble_eq_true rfl) | exact .ptrK (Nat.le_of_ble_eq_true rfl) | exact rs_pur (by simp) rfl)⟩, ⟨_, rfl, (by first | exact .ylK (Nat.le_of_ble_eq_true rfl) | exact .sloK (Nat.le_of_ble_eq_true rfl) | exact .ptrK (Nat.le_of_ble_eq_true rfl) | exact rs_pur (by simp) rfl)⟩, ⟨_, rfl, (by first | exact .ylK (Nat.le_of_ble_eq_true rfl) | exact .sloK (Nat.le_of_ble_eq_true rfl) | exact .ptrK (Nat.le_of_ble_eq_true rfl) | exact rs_pur (by simp) rfl)⟩, ⟨_, rfl, (by first | exact .ylK (Nat.le_of_ble_eq_true rfl) | exact .sloK (Nat.le_of_ble_eq_true rfl) | exact .ptrK (Nat.le_of_ble_eq_true rfl) | exact rs_pur (by simp) rfl)⟩, ⟨_, rfl, (by first | exact .ylK (Nat.le_of_ble_eq_true rfl) | exact .sloK (Nat.le_of_ble_eq_true rfl) | exact .ptrK (Nat.le_of_ble_eq_true rfl) | exact rs_pur (by simp) rfl)⟩, trivial⟩ ⟨ors_var ⟨rs_pur (by simp) rfl, rs_pur (by simp) rfl, rs_pur (by simp) rfl, rs_pur (by simp) rfl, trivial⟩, ors_var ⟨rs_pur (by simp) rfl, .sloK (Nat.le_of_ble_eq_true rfl), .sloK (Nat.le_of_ble_eq_true rfl), .sloK (Nat.le_of_ble_eq_true rfl), trivial⟩, ors_vec (pu_int _), ors_vec (pu_int _), ors_vec (pu_seat1 _ _), ors_loopS ⟨⟨_, rfl, rs_pur (by simp) rfl⟩, ⟨_, rfl, rs_pur (by simp) rfl⟩, ⟨_, rfl, .ptrK (Nat.le_of_ble_eq_true rfl)⟩, ⟨_, rfl, rs_pur (by simp) rfl⟩, ⟨_, rfl, .ptrK (Nat.le_of_ble_eq_true rfl)⟩, ⟨_, rfl, rs_pur (by simp) rfl⟩, trivial⟩, trivial⟩ ?_
    refine w_reg (l := r110_8.toList) rfl r110_8_ok ?_
    refine a_op rfl (o_add rfl rfl (by simp only [klo, khi]; omega)) ?_
    refine a_op rfl (o_mv rfl) ?_
    refine a_nil ?_
    refine tq_n ?_
    have hr1 : (loadS caps.length (·.fst) (tryS caps m stops) (i + 1)) = (loadS caps.length (·.fst) (tryS caps m stops) i).set k1 ((loadS caps.length (·.fst) (tryS caps m stops) i)[k1] + stops[i].vol) := by rw [loadS_succ hsl (by rw [hse]; exact hk1) hn1, hse]; rfl
    have hr2 : (loadS caps.length (·.snd) (tryS caps m stops) (i + 1)) = (loadS caps.length (·.snd) (tryS caps m stops) i).set (adv caps m stops[i].vol (gsAt caps m stops i)).at_ ((loadS caps.length (·.snd) (tryS caps m stops) i)[(adv caps m stops[i].vol (gsAt caps m stops i)).at_] + stops[i].vol) := by rw [loadS_succ hsl (by rw [hse]; rfl) hn2, hse]; rfl
    exact ⟨i + 1, ⟨hnx, by omega⟩, ⟨(by first | exact sub_int rfl (by omega) | rfl | exact sub_int rfl (by rw [hst]) | exact sub_int rfl (by rw [hgn]; rfl)), (by first | exact sub_int rfl (by omega) | rfl | exact sub_int rfl (by rw [hst]) | exact sub_int rfl (by rw [hgn]; rfl)), (by first | exact sub_int rfl (by omega) | rfl | exact sub_int rfl (by rw [hst]) | exact sub_int rfl (by rw [hgn]; rfl)), (by first | exact sub_int rfl (by omega) | rfl | exact sub_int rfl (by rw [hst]) | exact sub_int rfl (by rw [hgn]; rfl)), (by first | exact sub_int rfl (by omega) | rfl | exact sub_int rfl (by rw [hst]) | exact sub_int rfl (by rw [hgn]; rfl)), (by first | exact sub_int rfl (by omega) | rfl | exact sub_int rfl (by rw [hst]) | exact sub_int rfl (by rw [hgn]; rfl)), (by first | exact sub_int rfl (by omega) | rfl | exact sub_int rfl (by rw [hst]) | exact sub_int rfl (by rw [hgn]; rfl)), (by first | exact sub_int rfl (by omega) | rfl | exact sub_int rfl (by rw [hst]) | exact sub_int rfl (by rw [hgn]; rfl)), (by first | exact sub_int rfl (by omega) | rfl | exact sub_int rfl (by rw [hst]) | exact sub_int rfl (by rw [hgn]; rfl)), (by first | exact sub_int rfl (by omega) | rfl | exact sub_int rfl (by rw [hst]) | exact sub_int rfl (by rw [hgn]; rfl)), trivial⟩, by rw [mM, hr1, hr2, List.take_succ_eq_append_getElem hsl, hse, List.map_append]; rfl⟩
  refine a_nil ?_
  refine tq_n ?_
  refine awp_seq ?_
  refine w_false rfl ?_
  refine awp_exit ?_
  refine tq_x ?_
  refine tq_x ?_
  refine bq_hit ?_
  refine r_norm ?_
  refine r_none rfl trivial ?_
  refine ⟨rfl, ?_⟩
  rw [hp.full (by omega)]

def b4F : B4 := ⟨false, false, false, false⟩
theorem rs_emptyP {H : Heap} : Rs H (fun _ => False) (.agg [.raw (.slice none 0 0), .raw (.slice none 0 0), .raw (.slice none 0 0), .raw (.slice none 0 0)]) (planAV b4F emptyP) :=
  rs_agg ⟨.nil (by decide), .nil (by decide), .nil (by decide), .nil (by decide), trivial⟩
theorem seatsR_vol {caps : List Int} {most : Int} : ∀ (l : List StopR) (s : GS), (∀ x ∈ l, 1 ≤ x.vol ∧ x.vol ≤ 10000) → ∀ x ∈ seatsR caps most l s, 0 ≤ x.vol ∧ x.vol ≤ 10000
  | [], s, _, x, hx => by simp [seatsR] at hx
  | y :: t, s, h, x, hx => by
    rw [seatsR] at hx
    split at hx
    · cases hx
    · rcases List.mem_cons.1 hx with rfl | hx
      · have := h y (by simp); simp only [seatAt]; omega
      · exact seatsR_vol t _ (fun z hz => h z (by simp [hz])) x hx
theorem fit0 {caps : List Int} {stops : List StopR} (h : stops.length = 0) (hc : ∀ c ∈ caps, 1 ≤ c) : fitS caps stops 0 = true := by
  have : stops = [] := List.length_eq_zero_iff.1 h
  subst this
  have e : tryS caps (0 : Nat) [] = [] := rfl
  simp only [fitS, e, loadF, Bool.and_eq_true, decide_eq_true_eq]
  refine ⟨rfl, withinF_ok fun j hj => ?_⟩
  have hj' : j < caps.length := by simpa [loadS] using hj
  have := hc _ (List.getElem_mem hj')
  rw [getDi hj', show (loadS caps.length (·.fst) [] [].length).getD j 0 = 0 by simp only [loadS, List.length_nil, getD_repl]]
  omega

theorem make_ok (b : Fl) (stops : List StopR) (hl : stops.length ≤ 4611686018427387904) (b2 : Fl) (caps : List Int) (hl2 : caps.length ≤ 4611686018427387904) : PureCall Try.prog GL 24 [.sl 2 b (stops.map stopAV), .sl 1 b2 (caps.map intAV)] (.tup [planAV b4F (makeF stops caps).1, .raw (.int .i64 ((makeF stops caps).2))]) := by
  refine pure_of_body Try.func24 body24 (Nat.le_of_ble_eq_true rfl) (by simp) (by simp) ?_
  refine w_keep [(0, .sl 2 b (stops.map stopAV)), (1, .sl 1 b2 (caps.map intAV))] ⟨rfl, rfl, trivial⟩ ?_
  unfold c24
  refine awp_seq ?_
  refine w_reg (l := r24_0.toList) rfl r24_0_ok ?_
  refine a_op rfl (o_al (N := 0) tz51 rfl rfl rfl) ?_
  refine a_op rfl (o_as rfl) ?_
  refine a_nil ?_
  refine tq_n ?_
  refine awp_seq ?_
  refine awp_seq ?_
  refine w_reg (l := r24_1.toList) rfl r24_1_ok ?_
  refine a_op rfl (o_mv rfl) ?_
  refine a_pureb rfl rfl rfl cb69 (machine2_ok _ _ (by omega)) (fun h1 => ?_) (fun h2 => ?_)
  · refine a_op rfl (o_ntt rfl) ?_
    refine a_nil ?_
    refine tq_n ?_
    refine w_false rfl ?_
    refine awp_skip ?_
    refine tq_n ?_
    refine awp_seq ?_
    refine awp_seq ?_
    have hrt : rightF caps = true := by simp_all
    have hcl := rightF_le hrt
    obtain ⟨hc1, hc2, hc0⟩ := rightF_pos hrt
    have hcv : ∀ c ∈ caps, 1 ≤ c ∧ c ≤ 100000 := fun c hc => ⟨hc1 c hc, hc2 c hc⟩
    have hcne : caps ≠ [] := List.length_pos_iff.1 hc0
    refine w_reg (l := r24_3.toList) rfl r24_3_ok ?_
    refine a_op rfl (o_mv rfl) ?_
    refine a_op rfl (o_len rfl rfl (by first | exact List.length_map .. | rfl) tl46) ?_
    refine a_if rfl (o_gt rfl rfl) (fun h3 => ?_) (fun h4 => ?_)
    · refine a_nil ?_
      refine tq_n ?_
      refine w_true rfl ?_
      refine awp_seq ?_
      refine w_reg (l := r24_4.toList) rfl r24_4_ok ?_
      refine a_op rfl (o_bd tz51 rfl tp51 rfl rfl) ?_
      refine a_op0 rfl (o_st (N := 3) tn51 rfl rfl (by first | exact good_slo rfl | rfl | (simp [AV.goodPart, AV.good, AV.isCell, fresh, rowAV]; done)) rfl rfl) ?_
      refine a_op rfl (o_as rfl) ?_
      refine a_nil ?_
      refine tq_n ?_
      refine awp_ret ?_
      refine tq_r ?_
      refine r_tup (xs := []) rfl ⟨c_ag tg51 tn51 rfl rfl, rfl, trivial⟩ ?_
      have hr : makeF stops caps = (emptyP, 5) := by rw [makeF, if_neg (by simp_all), if_pos (by omega)]
      rw [hr]
      exact rs_tup ⟨rs_emptyP, .raw _, trivial⟩
    refine a_nil ?_
    refine tq_n ?_
    refine w_false rfl ?_
    refine awp_skip ?_
    refine tq_n ?_
    refine awp_seq ?_
    refine awp_seq ?_
    refine w_reg (l := r24_5.toList) rfl r24_5_ok ?_
    refine a_op rfl (o_mv rfl) ?_
    refine a_pure rfl rfl rfl cb70 (wrongS_ok _ _ (by omega)) ?_
    refine a_if rfl (o_ge rfl rfl) (fun h5 => ?_) (fun h6 => ?_)
    · refine a_nil ?_
      refine tq_n ?_
      refine w_true rfl ?_
      refine awp_seq ?_
      refine w_reg (l := r24_6.toList) rfl r24_6_ok ?_
      refine a_op rfl (o_bd tz51 rfl tp51 rfl rfl) ?_
      refine a_op0 rfl (o_st (N := 3) tn51 rfl rfl (by first | exact good_slo rfl | rfl | (simp [AV.goodPart, AV.good, AV.isCell, fresh, rowAV]; done)) rfl rfl) ?_
      refine a_op rfl (o_as rfl) ?_
      refine a_nil ?_
      refine tq_n ?_
      refine awp_ret ?_
      refine tq_r ?_
      refine r_tup (xs := []) rfl ⟨c_ag tg51 tn51 rfl rfl, rfl, trivial⟩ ?_
      have hr : makeF stops caps = (emptyP, 281) := by rw [makeF, if_neg (by simp_all), if_neg (by omega), if_pos (by omega)]
      rw [hr]
      exact rs_tup ⟨rs_emptyP, .raw _, trivial⟩
    refine a_nil ?_
    refine tq_n ?_
    refine w_false rfl ?_
    refine awp_skip ?_
    refine tq_n ?_
    refine awp_seq ?_
    refine awp_seq ?_
    have hsv : ∀ x ∈ stops, 1 ≤ x.vol ∧ x.vol ≤ 10000 := fun x hx => (wrongS_stop (by omega) x hx).2.2
    refine w_reg (l := r24_7.toList) rfl r24_7_ok ?_
    refine a_op rfl (o_mv rfl) ?_
    refine a_op rfl (o_len rfl rfl (by first | exact List.length_map .. | rfl) tl46) ?_
    refine a_op rfl (o_mv rfl) ?_
    refine a_op rfl (o_len rfl rfl (by first | exact List.length_map .. | rfl) tl34) ?_
    refine a_op rfl (o_min rfl rfl) ?_
    refine a_op rfl (o_as rfl) ?_
    refine a_nil ?_
    refine tq_n ?_
    refine awp_block ?_
    refine w_loop (fun m : Nat => m ≤ caps.length ∧ findM caps stops (min stops.length caps.length) = findM caps stops m) (fun m => [(0, .sl 2 b (stops.map stopAV)), (1, .sl 1 b2 (caps.map intAV)), (4, .ptr 0 0), (6, .raw (.int .i64 ((m : Nat) : Int)))]) (fun _ => [.var [.raw (.slice none 0 0), .raw (.slice none 0 0), .raw (.slice none 0 0), .raw (.slice none 0 0)]]) (fun m => m) (min stops.length caps.length) ⟨by omega, rfl⟩ ⟨(by first | exact sub_int rfl (by omega) | rfl), (by first | exact sub_int rfl (by omega) | rfl), (by first | exact sub_int rfl (by omega) | rfl), (by first | exact sub_int rfl (by omega) | rfl), trivial⟩ rfl ?_
    intro m ⟨hp1, hp2⟩
    unfold b24_2
    refine awp_seq ?_
    refine awp_seq ?_
    refine w_reg (l := r24_8.toList) rfl r24_8_ok ?_
    refine a_op rfl (o_mv rfl) ?_
    refine a_if rfl (o_gt rfl rfl) (fun h7 => ?_) (fun h8 => ?_)
    · refine a_op rfl (o_mv rfl) ?_
      refine a_off rfl ?_
      refine a_off rfl ?_
      refine a_off rfl ?_
      refine a_op rfl (o_pkt rfl rfl) ?_
      refine a_nil ?_
      refine tq_n ?_
      refine w_true rfl ?_
      refine awp_skip ?_
      refine tq_n ?_
      refine awp_seq ?_
      refine awp_block ?_
      refine awp_seq ?_
      have h0 : (0 : Int) ≤ (caps.length : Nat) := by omega
      have hb8 : ((8 : Nat) : Int) * (caps.length : Nat) ≤ 281474976710656 := by omega
      have h63 : ((caps.length : Nat) : Int) ≤ 9223372036854775807 := by omega
      refine w_phd rfl ?_
      refine w_ph 1 (by decide) rfl ?_
      refine w_ph 1 (by decide) rfl ?_
      refine awp_draw ⟨[[], [0], [], [2], [2, 3], [], [5], [5, 6], [0, 1, 2, 3, 4, 5, 6, 7], [], [0, 1, 2, 3, 4, 5, 6, 7, 8, 9]], [[1], [35], [1], [37], [38], [1], [40], [41], [36, 39, 42], [], [7, 43]], [[], [], [], [], [2], [], [], [3], [2, 3], [1], [1, 2, 3]], [none, none, none, none, some 2, none, none, some 3, none, some 1, some 1]⟩ mo r24_10_ok (by decide +kernel) (l := r24_10.toList) rfl ?_
      refine d_op rfl rfl rfl (fun _ => o_mv rfl) ?_
      refine d_pure rfl rfl rfl rfl cb71 (clone_ok _ caps hcne (by omega)) ?_
      refine d_op rfl rfl rfl (fun _ => o_mv rfl) ?_
      refine d_op rfl rfl rfl (fun _ => o_len rfl rfl (by first | exact List.length_map .. | rfl) tl34) ?_
      refine d_w rfl rfl rfl (fun _ => o_msD tE34 rfl rfl h0 (Int.le_refl _) hb8 h63 rfl) rfl rfl rfl ?_
      refine d_op rfl rfl rfl (fun _ => o_mv rfl) ?_
      refine d_op rfl rfl rfl (fun _ => o_len rfl rfl (by first | exact List.length_map .. | rfl) tl34) ?_
      refine d_w rfl rfl rfl (fun _ => o_msD tE34 rfl rfl h0 (Int.le_refl _) hb8 h63 rfl) rfl rfl rfl ?_
      refine d_op rfl rfl rfl (fun _ => o_bd tz51 rfl tp51 rfl rfl) ?_
      refine d_w rfl rfl rfl (fun _ => o_alD tz51 rfl rfl) rfl rfl rfl ?_
      refine d_w0 rfl rfl rfl (fun _ => o_stD (N := 3) tn51 rfl rfl (by first | exact good_slo rfl | rfl | (simp [AV.goodPart, AV.good, AV.isCell, fresh, rowAV]; done)) rfl rfl rfl) rfl rfl rfl ?_
      refine d_nil ?_
      refine tq_n ?_
      refine awp_seq ?_
      refine awp_seq ?_
      refine w_reg (l := r24_11.toList) rfl r24_11_ok ?_
      refine a_op rfl (o_mv rfl) ?_
      refine a_op rfl (o_mv rfl) ?_
      refine a_op rfl (o_mv rfl) ?_
      refine a_pure rfl rfl rfl cb72 (seats_ok _ stops _ caps m) ?_
      refine a_nil ?_
      refine tq_n ?_
      refine awp_block ?_
      refine w_ownc (i := 1) (j := 1) (z := 4) (N := 4) (by decide) rfl rfl rfl rfl rfl rfl ?_
      refine w_keep [(0, .sl 2 b (stops.map stopAV)), (1, .sl 1 b2 (caps.map intAV)), (4, .ptr 0 0), (6, .raw (.int .i64 ((m : Nat) : Int))), (7, .ptr 1 0), (47, .fn 110 [] [.rp [.sl 2 b (stops.map stopAV)], .rp [.sl 1 b2 (caps.map intAV)], .rp [.raw (.int .i64 ((m : Nat) : Int))]])] ⟨rfl, rfl, rfl, rfl, rfl, rfl, trivial⟩ ?_
      refine w_heq (H1 := mB caps m stops 0) (by simp [mB, loadS, intAV]) ?_
      refine awp_rangeFunc (R := fun r H' => r = .tup [] ∧ H' = mM b stops b2 caps m (tryS caps m stops).length .ready) rfl (evx_eq (v := .fn 110 [] [.rp [.sl 2 b (stops.map stopAV)], .rp [.sl 1 b2 (caps.map intAV)], .rp [.raw (.int .i64 ((m : Nat) : Int))]]) rfl) cb110 ?_ ?_
      · exact (seats1_ok b stops (by omega) hsv b2 caps hcl hcv m hp1 (GI.zero (by omega)) (seatsR_vol _ _ hsv)).calls
      rintro r H' ⟨rfl, rfl⟩
      refine after_end (l := qM b stops b2 caps m .ready) rfl rfl rfl rfl ?_
      refine bq_n ?_
      refine tq_n ?_
      refine awp_seq ?_
      refine w_view [(0, .sl 2 b (stops.map stopAV)), (1, .sl 1 b2 (caps.map intAV)), (4, .ptr 0 0), (6, .raw (.int .i64 ((m : Nat) : Int))), (7, .ptr 1 0)] [.var [.raw (.slice none 0 0), .raw (.slice none 0 0), .raw (.slice none 0 0), .raw (.slice none 0 0)], .var [rowAV caps, .slo 4 (tryS caps m stops).length 0 (tryS caps m stops).length, .slo 2 1 0 caps.length, .slo 3 1 0 caps.length], .vec 1 1 ((loadS caps.length (·.fst) (tryS caps m stops) (tryS caps m stops).length).map intAV), .vec 1 1 ((loadS caps.length (·.snd) (tryS caps m stops) (tryS caps m stops).length).map intAV), .vec 4 (tryS caps m stops).length (((tryS caps m stops).take (tryS caps m stops).length).map seatAV)] 5 rfl (Nat.le_of_ble_eq_true rfl) (Nat.le_of_ble_eq_true rfl) ⟨⟨_, rfl, (by first | exact .ylK (Nat.le_of_ble_eq_true rfl) | exact .sloK (Nat.le_of_ble_eq_true rfl) | exact .ptrK (Nat.le_of_ble_eq_true rfl) | exact rs_pur (by simp) rfl)⟩, ⟨_, rfl, (by first | exact .ylK (Nat.le_of_ble_eq_true rfl) | exact .sloK (Nat.le_of_ble_eq_true rfl) | exact .ptrK (Nat.le_of_ble_eq_true rfl) | exact rs_pur (by simp) rfl)⟩, ⟨_, rfl, (by first | exact .ylK (Nat.le_of_ble_eq_true rfl) | exact .sloK (Nat.le_of_ble_eq_true rfl) | exact .ptrK (Nat.le_of_ble_eq_true rfl) | exact rs_pur (by simp) rfl)⟩, ⟨_, rfl, (by first | exact .ylK (Nat.le_of_ble_eq_true rfl) | exact .sloK (Nat.le_of_ble_eq_true rfl) | exact .ptrK (Nat.le_of_ble_eq_true rfl) | exact rs_pur (by simp) rfl)⟩, ⟨_, rfl, (by first | exact .ylK (Nat.le_of_ble_eq_true rfl) | exact .sloK (Nat.le_of_ble_eq_true rfl) | exact .ptrK (Nat.le_of_ble_eq_true rfl) | exact rs_pur (by simp) rfl)⟩, trivial⟩ ⟨ors_var ⟨rs_pur (by simp) rfl, rs_pur (by simp) rfl, rs_pur (by simp) rfl, rs_pur (by simp) rfl, trivial⟩, ors_var ⟨rs_pur (by simp) rfl, .sloK (Nat.le_of_ble_eq_true rfl), .sloK (Nat.le_of_ble_eq_true rfl), .sloK (Nat.le_of_ble_eq_true rfl), trivial⟩, ors_vec (pu_int _), ors_vec (pu_int _), ors_vec (pu_seat _), trivial⟩ ?_
      refine w_reg (l := r24_16.toList) rfl r24_16_ok ?_
      refine a_op rfl ((by first | exact o_fa tf51_1 rfl rfl | exact o_fap tf51_1 rfl rfl)) ?_
      refine a_op rfl ((by first | exact o_ld tg49 rfl rfl | exact o_ldp tg49 rfl rfl rfl rfl)) ?_
      refine a_op rfl (o_len (q := (tryS caps m stops).length) (j := (tryS caps m stops).length) rfl (by simp [lenAV]) rfl tl49) ?_
      refine a_op rfl (o_mv rfl) ?_
      refine a_op rfl (o_len rfl rfl (by first | exact List.length_map .. | rfl) tl46) ?_
      refine a_if rfl (o_eq rfl rfl) (fun h9 => ?_) (fun h10 => ?_)
      · have hlen : (tryS caps m stops).length = stops.length := by omega
        refine a_op rfl (o_mv rfl) ?_
        refine a_op rfl ((by first | exact o_fa tf51_2 rfl rfl | exact o_fap tf51_2 rfl rfl)) ?_
        refine a_op rfl ((by first | exact o_ld tg34 rfl rfl | exact o_ldp tg34 rfl rfl rfl rfl)) ?_
        refine a_op rfl (o_mv rfl) ?_
        refine a_lendb (vs' := [.sl 1 false ((loadS caps.length (·.fst) (tryS caps m stops) (tryS caps m stops).length).map intAV), .sl 1 b2 (caps.map intAV)]) rfl rfl rfl cb73 (within_ok _ _ (by rw [loadS_len]; omega) _ caps (by rw [loadS_len]; exact Nat.le_refl _)) ⟨rs_slo id rfl (by rw [List.length_map, loadS_len]) (pu_int _) rfl, rs_pur (by simp) rfl, trivial⟩ (fun h11 => ?_) (fun h12 => ?_)
        · refine a_op rfl (o_pkt rfl rfl) ?_
          refine a_nil ?_
          refine tq_n ?_
          refine w_true rfl ?_
          refine awp_seq ?_
          refine w_reg (l := r24_17.toList) rfl r24_17_ok ?_
          refine a_op rfl ((by first | exact o_ldg tg51 tn51 rfl rfl | exact o_ldpg tg51 tn51 rfl rfl rfl rfl)) ?_
          refine a_op0 rfl (o_st (N := 3) tn51 rfl rfl (by first | exact good_slo rfl | rfl | (simp [AV.goodPart, AV.good, AV.isCell, fresh, rowAV]; done)) rfl rfl) ?_
          refine a_op rfl (o_as rfl) ?_
          refine a_nil ?_
          refine tq_n ?_
          refine awp_ret ?_
          refine bq_r ?_
          refine tq_r ?_
          refine tq_r ?_
          refine bq_r ?_
          refine tq_r ?_
          refine r_tup (xs := []) rfl ⟨c_ag tg51 tn51 rfl rfl, rfl, trivial⟩ ?_
          have hfm : findM caps stops (min stops.length caps.length) = some m := by
            rw [hp2]
            rcases Nat.eq_zero_or_pos m with h0 | h0
            · rw [h0, findM, if_pos (by omega)]
            · rw [show m = (m - 1) + 1 by omega, findM, if_pos]
              rw [← show m = (m - 1) + 1 by omega, fitS, loadF, decide_eq_true hlen, Bool.true_and]; assumption
          have hr : makeF stops caps = (planM caps stops m, 0) := by rw [makeF, if_neg (by simp [hrt]), if_neg (by omega), if_neg (by omega), hfm]
          rw [hr]
          exact rs_tup ⟨rs_agg ⟨rs_pur (by simp) rfl, rs_slo id rfl (by simp) (pu_seat _) (by rw [List.take_length]; rfl), rs_slo id rfl (by rw [List.length_map, loadS_len]) (pu_int _) rfl, rs_slo id rfl (by rw [List.length_map, loadS_len]) (pu_int _) rfl, trivial⟩, .raw _, trivial⟩
        refine a_op rfl (o_pkt rfl rfl) ?_
        refine a_nil ?_
        refine tq_n ?_
        refine w_false rfl ?_
        refine awp_skip ?_
        refine bq_n ?_
        refine tq_n ?_
        have hft : fitS caps stops m = false := by
          rw [fitS, loadF]
          first
            | (rw [show withinF (loadS caps.length (·.fst) (tryS caps m stops) (tryS caps m stops).length) caps = false by assumption, Bool.and_false])
            | (rw [decide_eq_false (by omega), Bool.false_and])
        have hm0 : 0 < m := by
          rcases Nat.eq_zero_or_pos m with h0 | h0
          · subst h0; rw [fit0 (by omega) (fun c hc => (hcv c hc).1)] at hft; cases hft
          · exact h0
        refine w_view [(0, .sl 2 b (stops.map stopAV)), (1, .sl 1 b2 (caps.map intAV)), (4, .ptr 0 0), (6, .raw (.int .i64 ((m : Nat) : Int)))] [.var [.raw (.slice none 0 0), .raw (.slice none 0 0), .raw (.slice none 0 0), .raw (.slice none 0 0)]] 1 rfl (Nat.le_of_ble_eq_true rfl) (Nat.le_of_ble_eq_true rfl) ⟨⟨_, rfl, (by first | exact .mpK (Nat.le_of_ble_eq_true rfl) | exact .sloK (Nat.le_of_ble_eq_true rfl) | exact .ptrK (Nat.le_of_ble_eq_true rfl) | exact rs_pur (by simp) rfl)⟩, ⟨_, rfl, (by first | exact .mpK (Nat.le_of_ble_eq_true rfl) | exact .sloK (Nat.le_of_ble_eq_true rfl) | exact .ptrK (Nat.le_of_ble_eq_true rfl) | exact rs_pur (by simp) rfl)⟩, ⟨_, rfl, (by first | exact .mpK (Nat.le_of_ble_eq_true rfl) | exact .sloK (Nat.le_of_ble_eq_true rfl) | exact .ptrK (Nat.le_of_ble_eq_true rfl) | exact rs_pur (by simp) rfl)⟩, ⟨_, rfl, (by first | exact .mpK (Nat.le_of_ble_eq_true rfl) | exact .sloK (Nat.le_of_ble_eq_true rfl) | exact .ptrK (Nat.le_of_ble_eq_true rfl) | exact rs_pur (by simp) rfl)⟩, trivial⟩ ⟨ors_var ⟨rs_pur (by simp) rfl, rs_pur (by simp) rfl, rs_pur (by simp) rfl, rs_pur (by simp) rfl, trivial⟩, trivial⟩ ?_
        refine w_reg (l := r24_9.toList) rfl r24_9_ok ?_
        refine a_op rfl (o_mv rfl) ?_
        refine a_op rfl (o_sub rfl rfl (by simp only [klo, khi]; omega)) ?_
        refine a_op rfl (o_as rfl) ?_
        refine a_nil ?_
        refine tq_n ?_
        exact ⟨m - 1, ⟨⟨by omega, by rw [hp2, show m = (m - 1) + 1 by omega, findM, if_neg (by rw [← show m = (m - 1) + 1 by omega, hft]; simp), Nat.add_sub_cancel]⟩, by omega⟩, ⟨(by first | exact sub_int rfl (by omega) | rfl), (by first | exact sub_int rfl (by omega) | rfl), (by first | exact sub_int rfl (by omega) | rfl), (by first | exact sub_int rfl (by omega) | rfl), trivial⟩, rfl⟩
      refine a_op rfl (o_mv rfl) ?_
      refine a_off rfl ?_
      refine a_off rfl ?_
      refine a_off rfl ?_
      refine a_off rfl ?_
      refine a_op rfl (o_pkf rfl rfl) ?_
      refine a_nil ?_
      refine tq_n ?_
      refine w_false rfl ?_
      refine awp_skip ?_
      refine bq_n ?_
      refine tq_n ?_
      have hft : fitS caps stops m = false := by
        rw [fitS, loadF]
        first
          | (rw [show withinF (loadS caps.length (·.fst) (tryS caps m stops) (tryS caps m stops).length) caps = false by assumption, Bool.and_false])
          | (rw [decide_eq_false (by omega), Bool.false_and])
      have hm0 : 0 < m := by
        rcases Nat.eq_zero_or_pos m with h0 | h0
        · subst h0; rw [fit0 (by omega) (fun c hc => (hcv c hc).1)] at hft; cases hft
        · exact h0
      refine w_view [(0, .sl 2 b (stops.map stopAV)), (1, .sl 1 b2 (caps.map intAV)), (4, .ptr 0 0), (6, .raw (.int .i64 ((m : Nat) : Int)))] [.var [.raw (.slice none 0 0), .raw (.slice none 0 0), .raw (.slice none 0 0), .raw (.slice none 0 0)]] 1 rfl (Nat.le_of_ble_eq_true rfl) (Nat.le_of_ble_eq_true rfl) ⟨⟨_, rfl, (by first | exact .mpK (Nat.le_of_ble_eq_true rfl) | exact .sloK (Nat.le_of_ble_eq_true rfl) | exact .ptrK (Nat.le_of_ble_eq_true rfl) | exact rs_pur (by simp) rfl)⟩, ⟨_, rfl, (by first | exact .mpK (Nat.le_of_ble_eq_true rfl) | exact .sloK (Nat.le_of_ble_eq_true rfl) | exact .ptrK (Nat.le_of_ble_eq_true rfl) | exact rs_pur (by simp) rfl)⟩, ⟨_, rfl, (by first | exact .mpK (Nat.le_of_ble_eq_true rfl) | exact .sloK (Nat.le_of_ble_eq_true rfl) | exact .ptrK (Nat.le_of_ble_eq_true rfl) | exact rs_pur (by simp) rfl)⟩, ⟨_, rfl, (by first | exact .mpK (Nat.le_of_ble_eq_true rfl) | exact .sloK (Nat.le_of_ble_eq_true rfl) | exact .ptrK (Nat.le_of_ble_eq_true rfl) | exact rs_pur (by simp) rfl)⟩, trivial⟩ ⟨ors_var ⟨rs_pur (by simp) rfl, rs_pur (by simp) rfl, rs_pur (by simp) rfl, rs_pur (by simp) rfl, trivial⟩, trivial⟩ ?_
      refine w_reg (l := r24_9.toList) rfl r24_9_ok ?_
      refine a_op rfl (o_mv rfl) ?_
      refine a_op rfl (o_sub rfl rfl (by simp only [klo, khi]; omega)) ?_
      refine a_op rfl (o_as rfl) ?_
      refine a_nil ?_
      refine tq_n ?_
      exact ⟨m - 1, ⟨⟨by omega, by rw [hp2, show m = (m - 1) + 1 by omega, findM, if_neg (by rw [← show m = (m - 1) + 1 by omega, hft]; simp), Nat.add_sub_cancel]⟩, by omega⟩, ⟨(by first | exact sub_int rfl (by omega) | rfl), (by first | exact sub_int rfl (by omega) | rfl), (by first | exact sub_int rfl (by omega) | rfl), (by first | exact sub_int rfl (by omega) | rfl), trivial⟩, rfl⟩
    refine a_op rfl (o_mv rfl) ?_
    refine a_op rfl (o_mv rfl) ?_
    refine a_op rfl (o_len rfl rfl (by first | exact List.length_map .. | rfl) tl46) ?_
    refine a_if rfl (o_eq rfl rfl) (fun h13 => ?_) (fun h14 => ?_)
    · refine a_op rfl (o_pkf rfl rfl) ?_
      refine a_nil ?_
      refine tq_n ?_
      refine w_true rfl ?_
      refine awp_skip ?_
      refine tq_n ?_
      refine awp_seq ?_
      refine awp_block ?_
      refine awp_seq ?_
      have h0 : (0 : Int) ≤ (caps.length : Nat) := by omega
      have hb8 : ((8 : Nat) : Int) * (caps.length : Nat) ≤ 281474976710656 := by omega
      have h63 : ((caps.length : Nat) : Int) ≤ 9223372036854775807 := by omega
      refine w_phd rfl ?_
      refine w_ph 1 (by decide) rfl ?_
      refine w_ph 1 (by decide) rfl ?_
      refine awp_draw ⟨[[], [0], [], [2], [2, 3], [], [5], [5, 6], [0, 1, 2, 3, 4, 5, 6, 7], [], [0, 1, 2, 3, 4, 5, 6, 7, 8, 9]], [[1], [35], [1], [37], [38], [1], [40], [41], [36, 39, 42], [], [7, 43]], [[], [], [], [], [2], [], [], [3], [2, 3], [1], [1, 2, 3]], [none, none, none, none, some 2, none, none, some 3, none, some 1, some 1]⟩ mo r24_10_ok (by decide +kernel) (l := r24_10.toList) rfl ?_
      refine d_op rfl rfl rfl (fun _ => o_mv rfl) ?_
      refine d_pure rfl rfl rfl rfl cb71 (clone_ok _ caps hcne (by omega)) ?_
      refine d_op rfl rfl rfl (fun _ => o_mv rfl) ?_
      refine d_op rfl rfl rfl (fun _ => o_len rfl rfl (by first | exact List.length_map .. | rfl) tl34) ?_
      refine d_w rfl rfl rfl (fun _ => o_msD tE34 rfl rfl h0 (Int.le_refl _) hb8 h63 rfl) rfl rfl rfl ?_
      refine d_op rfl rfl rfl (fun _ => o_mv rfl) ?_
      refine d_op rfl rfl rfl (fun _ => o_len rfl rfl (by first | exact List.length_map .. | rfl) tl34) ?_
      refine d_w rfl rfl rfl (fun _ => o_msD tE34 rfl rfl h0 (Int.le_refl _) hb8 h63 rfl) rfl rfl rfl ?_
      refine d_op rfl rfl rfl (fun _ => o_bd tz51 rfl tp51 rfl rfl) ?_
      refine d_w rfl rfl rfl (fun _ => o_alD tz51 rfl rfl) rfl rfl rfl ?_
      refine d_w0 rfl rfl rfl (fun _ => o_stD (N := 3) tn51 rfl rfl (by first | exact good_slo rfl | rfl | (simp [AV.goodPart, AV.good, AV.isCell, fresh, rowAV]; done)) rfl rfl rfl) rfl rfl rfl ?_
      refine d_nil ?_
      refine tq_n ?_
      refine awp_seq ?_
      refine awp_seq ?_
      refine w_reg (l := r24_11.toList) rfl r24_11_ok ?_
      refine a_op rfl (o_mv rfl) ?_
      refine a_op rfl (o_mv rfl) ?_
      refine a_op rfl (o_mv rfl) ?_
      refine a_pure rfl rfl rfl cb72 (seats_ok _ stops _ caps m) ?_
      refine a_nil ?_
      refine tq_n ?_
      refine awp_block ?_
      refine w_ownc (i := 1) (j := 1) (z := 4) (N := 4) (by decide) rfl rfl rfl rfl rfl rfl ?_
      refine w_keep [(0, .sl 2 b (stops.map stopAV)), (1, .sl 1 b2 (caps.map intAV)), (4, .ptr 0 0), (6, .raw (.int .i64 ((m : Nat) : Int))), (7, .ptr 1 0), (47, .fn 110 [] [.rp [.sl 2 b (stops.map stopAV)], .rp [.sl 1 b2 (caps.map intAV)], .rp [.raw (.int .i64 ((m : Nat) : Int))]])] ⟨rfl, rfl, rfl, rfl, rfl, rfl, trivial⟩ ?_
      refine w_heq (H1 := mB caps m stops 0) (by simp [mB, loadS, intAV]) ?_
      refine awp_rangeFunc (R := fun r H' => r = .tup [] ∧ H' = mM b stops b2 caps m (tryS caps m stops).length .ready) rfl (evx_eq (v := .fn 110 [] [.rp [.sl 2 b (stops.map stopAV)], .rp [.sl 1 b2 (caps.map intAV)], .rp [.raw (.int .i64 ((m : Nat) : Int))]]) rfl) cb110 ?_ ?_
      · exact (seats1_ok b stops (by omega) hsv b2 caps hcl hcv m hp1 (GI.zero (by omega)) (seatsR_vol _ _ hsv)).calls
      rintro r H' ⟨rfl, rfl⟩
      refine after_end (l := qM b stops b2 caps m .ready) rfl rfl rfl rfl ?_
      refine bq_n ?_
      refine tq_n ?_
      refine awp_seq ?_
      refine w_view [(0, .sl 2 b (stops.map stopAV)), (1, .sl 1 b2 (caps.map intAV)), (4, .ptr 0 0), (6, .raw (.int .i64 ((m : Nat) : Int))), (7, .ptr 1 0)] [.var [.raw (.slice none 0 0), .raw (.slice none 0 0), .raw (.slice none 0 0), .raw (.slice none 0 0)], .var [rowAV caps, .slo 4 (tryS caps m stops).length 0 (tryS caps m stops).length, .slo 2 1 0 caps.length, .slo 3 1 0 caps.length], .vec 1 1 ((loadS caps.length (·.fst) (tryS caps m stops) (tryS caps m stops).length).map intAV), .vec 1 1 ((loadS caps.length (·.snd) (tryS caps m stops) (tryS caps m stops).length).map intAV), .vec 4 (tryS caps m stops).length (((tryS caps m stops).take (tryS caps m stops).length).map seatAV)] 5 rfl (Nat.le_of_ble_eq_true rfl) (Nat.le_of_ble_eq_true rfl) ⟨⟨_, rfl, (by first | exact .ylK (Nat.le_of_ble_eq_true rfl) | exact .sloK (Nat.le_of_ble_eq_true rfl) | exact .ptrK (Nat.le_of_ble_eq_true rfl) | exact rs_pur (by simp) rfl)⟩, ⟨_, rfl, (by first | exact .ylK (Nat.le_of_ble_eq_true rfl) | exact .sloK (Nat.le_of_ble_eq_true rfl) | exact .ptrK (Nat.le_of_ble_eq_true rfl) | exact rs_pur (by simp) rfl)⟩, ⟨_, rfl, (by first | exact .ylK (Nat.le_of_ble_eq_true rfl) | exact .sloK (Nat.le_of_ble_eq_true rfl) | exact .ptrK (Nat.le_of_ble_eq_true rfl) | exact rs_pur (by simp) rfl)⟩, ⟨_, rfl, (by first | exact .ylK (Nat.le_of_ble_eq_true rfl) | exact .sloK (Nat.le_of_ble_eq_true rfl) | exact .ptrK (Nat.le_of_ble_eq_true rfl) | exact rs_pur (by simp) rfl)⟩, ⟨_, rfl, (by first | exact .ylK (Nat.le_of_ble_eq_true rfl) | exact .sloK (Nat.le_of_ble_eq_true rfl) | exact .ptrK (Nat.le_of_ble_eq_true rfl) | exact rs_pur (by simp) rfl)⟩, trivial⟩ ⟨ors_var ⟨rs_pur (by simp) rfl, rs_pur (by simp) rfl, rs_pur (by simp) rfl, rs_pur (by simp) rfl, trivial⟩, ors_var ⟨rs_pur (by simp) rfl, .sloK (Nat.le_of_ble_eq_true rfl), .sloK (Nat.le_of_ble_eq_true rfl), .sloK (Nat.le_of_ble_eq_true rfl), trivial⟩, ors_vec (pu_int _), ors_vec (pu_int _), ors_vec (pu_seat _), trivial⟩ ?_
      refine w_reg (l := r24_16.toList) rfl r24_16_ok ?_
      refine a_op rfl ((by first | exact o_fa tf51_1 rfl rfl | exact o_fap tf51_1 rfl rfl)) ?_
      refine a_op rfl ((by first | exact o_ld tg49 rfl rfl | exact o_ldp tg49 rfl rfl rfl rfl)) ?_
      refine a_op rfl (o_len (q := (tryS caps m stops).length) (j := (tryS caps m stops).length) rfl (by simp [lenAV]) rfl tl49) ?_
      refine a_op rfl (o_mv rfl) ?_
      refine a_op rfl (o_len rfl rfl (by first | exact List.length_map .. | rfl) tl46) ?_
      refine a_if rfl (o_eq rfl rfl) (fun h15 => ?_) (fun h16 => ?_)
      · have hlen : (tryS caps m stops).length = stops.length := by omega
        refine a_op rfl (o_mv rfl) ?_
        refine a_op rfl ((by first | exact o_fa tf51_2 rfl rfl | exact o_fap tf51_2 rfl rfl)) ?_
        refine a_op rfl ((by first | exact o_ld tg34 rfl rfl | exact o_ldp tg34 rfl rfl rfl rfl)) ?_
        refine a_op rfl (o_mv rfl) ?_
        refine a_lendb (vs' := [.sl 1 false ((loadS caps.length (·.fst) (tryS caps m stops) (tryS caps m stops).length).map intAV), .sl 1 b2 (caps.map intAV)]) rfl rfl rfl cb73 (within_ok _ _ (by rw [loadS_len]; omega) _ caps (by rw [loadS_len]; exact Nat.le_refl _)) ⟨rs_slo id rfl (by rw [List.length_map, loadS_len]) (pu_int _) rfl, rs_pur (by simp) rfl, trivial⟩ (fun h17 => ?_) (fun h18 => ?_)
        · refine a_op rfl (o_pkt rfl rfl) ?_
          refine a_nil ?_
          refine tq_n ?_
          refine w_true rfl ?_
          refine awp_seq ?_
          refine w_reg (l := r24_17.toList) rfl r24_17_ok ?_
          refine a_op rfl ((by first | exact o_ldg tg51 tn51 rfl rfl | exact o_ldpg tg51 tn51 rfl rfl rfl rfl)) ?_
          refine a_op0 rfl (o_st (N := 3) tn51 rfl rfl (by first | exact good_slo rfl | rfl | (simp [AV.goodPart, AV.good, AV.isCell, fresh, rowAV]; done)) rfl rfl) ?_
          refine a_op rfl (o_as rfl) ?_
          refine a_nil ?_
          refine tq_n ?_
          refine awp_ret ?_
          refine bq_r ?_
          refine tq_r ?_
          refine tq_r ?_
          refine bq_r ?_
          refine tq_r ?_
          refine r_tup (xs := []) rfl ⟨c_ag tg51 tn51 rfl rfl, rfl, trivial⟩ ?_
          have hfm : findM caps stops (min stops.length caps.length) = some m := by
            rw [hp2]
            rcases Nat.eq_zero_or_pos m with h0 | h0
            · rw [h0, findM, if_pos (by omega)]
            · rw [show m = (m - 1) + 1 by omega, findM, if_pos]
              rw [← show m = (m - 1) + 1 by omega, fitS, loadF, decide_eq_true hlen, Bool.true_and]; assumption
          have hr : makeF stops caps = (planM caps stops m, 0) := by rw [makeF, if_neg (by simp [hrt]), if_neg (by omega), if_neg (by omega), hfm]
          rw [hr]
          exact rs_tup ⟨rs_agg ⟨rs_pur (by simp) rfl, rs_slo id rfl (by simp) (pu_seat _) (by rw [List.take_length]; rfl), rs_slo id rfl (by rw [List.length_map, loadS_len]) (pu_int _) rfl, rs_slo id rfl (by rw [List.length_map, loadS_len]) (pu_int _) rfl, trivial⟩, .raw _, trivial⟩
        refine a_op rfl (o_pkt rfl rfl) ?_
        refine a_nil ?_
        refine tq_n ?_
        refine w_false rfl ?_
        refine awp_skip ?_
        refine bq_n ?_
        refine tq_n ?_
        have hft : fitS caps stops m = false := by
          rw [fitS, loadF]
          first
            | (rw [show withinF (loadS caps.length (·.fst) (tryS caps m stops) (tryS caps m stops).length) caps = false by assumption, Bool.and_false])
            | (rw [decide_eq_false (by omega), Bool.false_and])
        have hm0 : 0 < m := by
          rcases Nat.eq_zero_or_pos m with h0 | h0
          · subst h0; rw [fit0 (by omega) (fun c hc => (hcv c hc).1)] at hft; cases hft
          · exact h0
        refine w_view [(0, .sl 2 b (stops.map stopAV)), (1, .sl 1 b2 (caps.map intAV)), (4, .ptr 0 0), (6, .raw (.int .i64 ((m : Nat) : Int)))] [.var [.raw (.slice none 0 0), .raw (.slice none 0 0), .raw (.slice none 0 0), .raw (.slice none 0 0)]] 1 rfl (Nat.le_of_ble_eq_true rfl) (Nat.le_of_ble_eq_true rfl) ⟨⟨_, rfl, (by first | exact .mpK (Nat.le_of_ble_eq_true rfl) | exact .sloK (Nat.le_of_ble_eq_true rfl) | exact .ptrK (Nat.le_of_ble_eq_true rfl) | exact rs_pur (by simp) rfl)⟩, ⟨_, rfl, (by first | exact .mpK (Nat.le_of_ble_eq_true rfl) | exact .sloK (Nat.le_of_ble_eq_true rfl) | exact .ptrK (Nat.le_of_ble_eq_true rfl) | exact rs_pur (by simp) rfl)⟩, ⟨_, rfl, (by first | exact .mpK (Nat.le_of_ble_eq_true rfl) | exact .sloK (Nat.le_of_ble_eq_true rfl) | exact .ptrK (Nat.le_of_ble_eq_true rfl) | exact rs_pur (by simp) rfl)⟩, ⟨_, rfl, (by first | exact .mpK (Nat.le_of_ble_eq_true rfl) | exact .sloK (Nat.le_of_ble_eq_true rfl) | exact .ptrK (Nat.le_of_ble_eq_true rfl) | exact rs_pur (by simp) rfl)⟩, trivial⟩ ⟨ors_var ⟨rs_pur (by simp) rfl, rs_pur (by simp) rfl, rs_pur (by simp) rfl, rs_pur (by simp) rfl, trivial⟩, trivial⟩ ?_
        refine w_reg (l := r24_9.toList) rfl r24_9_ok ?_
        refine a_op rfl (o_mv rfl) ?_
        refine a_op rfl (o_sub rfl rfl (by simp only [klo, khi]; omega)) ?_
        refine a_op rfl (o_as rfl) ?_
        refine a_nil ?_
        refine tq_n ?_
        exact ⟨m - 1, ⟨⟨by omega, by rw [hp2, show m = (m - 1) + 1 by omega, findM, if_neg (by rw [← show m = (m - 1) + 1 by omega, hft]; simp), Nat.add_sub_cancel]⟩, by omega⟩, ⟨(by first | exact sub_int rfl (by omega) | rfl), (by first | exact sub_int rfl (by omega) | rfl), (by first | exact sub_int rfl (by omega) | rfl), (by first | exact sub_int rfl (by omega) | rfl), trivial⟩, rfl⟩
      refine a_op rfl (o_mv rfl) ?_
      refine a_off rfl ?_
      refine a_off rfl ?_
      refine a_off rfl ?_
      refine a_off rfl ?_
      refine a_op rfl (o_pkf rfl rfl) ?_
      refine a_nil ?_
      refine tq_n ?_
      refine w_false rfl ?_
      refine awp_skip ?_
      refine bq_n ?_
      refine tq_n ?_
      have hft : fitS caps stops m = false := by
        rw [fitS, loadF]
        first
          | (rw [show withinF (loadS caps.length (·.fst) (tryS caps m stops) (tryS caps m stops).length) caps = false by assumption, Bool.and_false])
          | (rw [decide_eq_false (by omega), Bool.false_and])
      have hm0 : 0 < m := by
        rcases Nat.eq_zero_or_pos m with h0 | h0
        · subst h0; rw [fit0 (by omega) (fun c hc => (hcv c hc).1)] at hft; cases hft
        · exact h0
      refine w_view [(0, .sl 2 b (stops.map stopAV)), (1, .sl 1 b2 (caps.map intAV)), (4, .ptr 0 0), (6, .raw (.int .i64 ((m : Nat) : Int)))] [.var [.raw (.slice none 0 0), .raw (.slice none 0 0), .raw (.slice none 0 0), .raw (.slice none 0 0)]] 1 rfl (Nat.le_of_ble_eq_true rfl) (Nat.le_of_ble_eq_true rfl) ⟨⟨_, rfl, (by first | exact .mpK (Nat.le_of_ble_eq_true rfl) | exact .sloK (Nat.le_of_ble_eq_true rfl) | exact .ptrK (Nat.le_of_ble_eq_true rfl) | exact rs_pur (by simp) rfl)⟩, ⟨_, rfl, (by first | exact .mpK (Nat.le_of_ble_eq_true rfl) | exact .sloK (Nat.le_of_ble_eq_true rfl) | exact .ptrK (Nat.le_of_ble_eq_true rfl) | exact rs_pur (by simp) rfl)⟩, ⟨_, rfl, (by first | exact .mpK (Nat.le_of_ble_eq_true rfl) | exact .sloK (Nat.le_of_ble_eq_true rfl) | exact .ptrK (Nat.le_of_ble_eq_true rfl) | exact rs_pur (by simp) rfl)⟩, ⟨_, rfl, (by first | exact .mpK (Nat.le_of_ble_eq_true rfl) | exact .sloK (Nat.le_of_ble_eq_true rfl) | exact .ptrK (Nat.le_of_ble_eq_true rfl) | exact rs_pur (by simp) rfl)⟩, trivial⟩ ⟨ors_var ⟨rs_pur (by simp) rfl, rs_pur (by simp) rfl, rs_pur (by simp) rfl, rs_pur (by simp) rfl, trivial⟩, trivial⟩ ?_
      refine w_reg (l := r24_9.toList) rfl r24_9_ok ?_
      refine a_op rfl (o_mv rfl) ?_
      refine a_op rfl (o_sub rfl rfl (by simp only [klo, khi]; omega)) ?_
      refine a_op rfl (o_as rfl) ?_
      refine a_nil ?_
      refine tq_n ?_
      exact ⟨m - 1, ⟨⟨by omega, by rw [hp2, show m = (m - 1) + 1 by omega, findM, if_neg (by rw [← show m = (m - 1) + 1 by omega, hft]; simp), Nat.add_sub_cancel]⟩, by omega⟩, ⟨(by first | exact sub_int rfl (by omega) | rfl), (by first | exact sub_int rfl (by omega) | rfl), (by first | exact sub_int rfl (by omega) | rfl), (by first | exact sub_int rfl (by omega) | rfl), trivial⟩, rfl⟩
    refine a_op rfl (o_pkf rfl rfl) ?_
    refine a_nil ?_
    refine tq_n ?_
    refine w_false rfl ?_
    refine awp_exit ?_
    refine tq_x ?_
    refine tq_x ?_
    refine bq_hit ?_
    refine tq_n ?_
    refine awp_seq ?_
    refine w_reg (l := r24_18.toList) rfl r24_18_ok ?_
    refine a_op rfl (o_bd tz51 rfl tp51 rfl rfl) ?_
    refine a_op0 rfl (o_st (N := 3) tn51 rfl rfl (by first | exact good_slo rfl | rfl | (simp [AV.goodPart, AV.good, AV.isCell, fresh, rowAV]; done)) rfl rfl) ?_
    refine a_op rfl (o_as rfl) ?_
    refine a_nil ?_
    refine tq_n ?_
    refine awp_ret ?_
    refine r_tup (xs := []) rfl ⟨c_ag tg51 tn51 rfl rfl, rfl, trivial⟩ ?_
    have hz : m = 0 := by omega
    have hfm : findM caps stops (min stops.length caps.length) = none := by rw [hp2, hz, findM, if_neg (by omega)]
    have hr : makeF stops caps = (emptyP, 4) := by rw [makeF, if_neg (by simp [hrt]), if_neg (by omega), if_neg (by omega), hfm]
    rw [hr]
    exact rs_tup ⟨rs_emptyP, .raw _, trivial⟩
  refine a_op rfl (o_ntf rfl) ?_
  refine a_nil ?_
  refine tq_n ?_
  refine w_true rfl ?_
  refine awp_seq ?_
  refine w_reg (l := r24_2.toList) rfl r24_2_ok ?_
  refine a_op rfl (o_bd tz51 rfl tp51 rfl rfl) ?_
  refine a_op0 rfl (o_st (N := 3) tn51 rfl rfl (by first | exact good_slo rfl | rfl | (simp [AV.goodPart, AV.good, AV.isCell, fresh, rowAV]; done)) rfl rfl) ?_
  refine a_op rfl (o_as rfl) ?_
  refine a_nil ?_
  refine tq_n ?_
  refine awp_ret ?_
  refine tq_r ?_
  refine r_tup (xs := []) rfl ⟨c_ag tg51 tn51 rfl rfl, rfl, trivial⟩ ?_
  have hr : makeF stops caps = (emptyP, 280) := by rw [makeF, if_pos (by simp_all)]
  rw [hr]
  exact rs_tup ⟨rs_emptyP, .raw _, trivial⟩
end Go.Ab.S
