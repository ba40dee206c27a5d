/- What functions of this program compute, and the laws of what they compute, under the bounds on lengths that each contract states. -/
import Derived.Test.YtegbbhaghlcckaaSA
import Derived.Test.YtegbbhaghlcckaaGD

set_option linter.unusedSimpArgs false
set_option linter.unusedVariables false
namespace Go.Ab.S
open Go Go.Ab Go.Proofs
theorem nthX_last {α : Type} : ∀ (l : List α) (x : α), nthX (l ++ [x]) l.length = some x
  | [], _ => rfl
  | _ :: l, x => nthX_last l x
theorem setX_row {A R : Heap} {o : AObj} {k : Nat} (hA : A.length = 8) (h : k < R.length) : setX (A ++ R) (8 + k) o = some (A ++ R.set k o) := by
  rw [setX_ok (by simp; omega), List.set_append_right _ _ (by omega), hA, show 8 + k - 8 = k by omega]
theorem good_slo' {H : Heap} {i ver off len z : Nat} {es : List AV} (h : H[i]? = some (.vec z ver es)) : (AV.slo i ver off len).goodPart H = true := good_slo (by rw [nthX_eq]; exact h)
theorem okM.mono {n B B' : Nat} {s : MS} (h : okM n B s) (hB : B ≤ B') : okM n B' s :=
  ⟨h.rows, h.swept, h.load, fun r hr => Nat.le_trans (h.rl r hr) hB, Nat.le_trans h.ol hB, Nat.le_trans h.jl hB, Nat.le_trans h.el (by omega), fun v hv => by have := h.sb v hv; omega, fun v hv => by have := h.lb v hv; omega, h.s0, h.s1⟩
theorem okM_rej {n B : Nat} {s : MS} {x : Int} {e : EvR} (h : okM n B s) : okM n (B + 1) (noteM (rejM s x) e) :=
  { h.mono (Nat.le_succ B) with jl := by have := h.jl; simp [noteM, rejM]; omega, el := by have := h.el; simp [noteM, rejM]; omega }
/-- As okM, the events one more. -/
structure okE (n B : Nat) (s : MS) : Prop where
  rows : s.rows.length = n
  swept : s.swept.length = n
  load : s.load.length = n
  rl : ∀ r ∈ s.rows, r.length ≤ B
  ol : s.over.length ≤ B
  jl : s.rej.length ≤ B
  el : s.ev.length ≤ 2 * B + 1
  sb : ∀ v ∈ s.swept, 0 ≤ v ∧ v ≤ (B + 1 : Nat)
  lb : ∀ v ∈ s.load, 0 ≤ v ∧ v ≤ B
  s0 : 0 ≤ s.sweeps
  s1 : s.sweeps ≤ 1000
theorem okM.e {n B : Nat} {s : MS} (h : okM n B s) : okE n B s := ⟨h.rows, h.swept, h.load, h.rl, h.ol, h.jl, by have := h.el; omega, fun v hv => by have := h.sb v hv; omega, h.lb, h.s0, h.s1⟩
theorem okE_sweep {n B k : Nat} {s : MS} {e : EvR} (h : okM n B s) (h0 : 0 < s.sweeps) : okE n B (noteM (sweepM s k) e) where
  rows := h.rows
  swept := by have := h.swept; simp [noteM, sweepM]; exact this
  load := by have := h.load; simp [noteM, sweepM]; exact this
  rl := h.rl
  ol := h.ol
  jl := h.jl
  el := by have := h.el; simp [noteM, sweepM]; omega
  sb := fun v hv => by
    rcases mem_set_or hv with hv | rfl
    · have := h.sb v hv; omega
    · rcases getD_mem0 (l := s.swept) (k := k) with h' | h'
      · omega
      · have := h.sb _ h'; omega
  lb := fun v hv => by
    rcases mem_set_or hv with hv | rfl
    · exact h.lb v hv
    · omega
  s0 := by have := h.s0; simp [noteM, sweepM]; omega
  s1 := by have := h.s1; simp [noteM, sweepM]; omega
theorem okM_over {n B : Nat} {s : MS} {x : Int} {e : EvR} (h : okE n B s) : okM n (B + 1) (noteM (overM s x) e) where
  rows := h.rows
  swept := h.swept
  load := h.load
  rl := fun r hr => by have := h.rl r hr; omega
  ol := by have := h.ol; simp [noteM, overM]; omega
  jl := by have := h.jl; simp [noteM, overM]; omega
  el := by have := h.el; simp [noteM, overM]; omega
  sb := fun v hv => by have := h.sb v hv; omega
  lb := fun v hv => by have := h.lb v hv; omega
  s0 := h.s0
  s1 := h.s1
theorem okM_stack {n B k : Nat} {s : MS} {x : Int} {e : EvR} (h : okE n B s) : okM n (B + 1) (noteM (stackM s k x) e) where
  rows := by have := h.rows; simp [noteM, stackM]; exact this
  swept := h.swept
  load := by have := h.load; simp [noteM, stackM]; exact this
  rl := fun r hr => by
    rcases mem_set_or hr with hr | rfl
    · have := h.rl r hr; omega
    · rw [List.getD_eq_getElem?_getD]
      cases h' : s.rows[k]? with
      | none => simp
      | some r => have := h.rl r (List.mem_of_getElem? h'); simp; omega
  ol := by have := h.ol; simp [noteM, stackM]; omega
  jl := by have := h.jl; simp [noteM, stackM]; omega
  el := by have := h.el; simp [noteM, stackM]; omega
  sb := fun v hv => by have := h.sb v hv; omega
  lb := fun v hv => by
    rcases mem_set_or hv with hv | rfl
    · have := h.lb v hv; omega
    · rcases getD_mem0 (l := s.load) (k := k) with h' | h'
      · omega
      · have := h.lb _ h'; omega
  s0 := h.s0
  s1 := h.s1
theorem okM_step {cs : List Int} {n B : Nat} {s : MS} {x : FeedR} (h : okM n B s) : okM n (B + 1) (stepM cs s x) := by
  unfold stepM
  split
  · exact okM_rej h
  · have hE : okE n B (if s.load.getD x.stk.toNat 0 = cs.getD x.stk.toNat 0 ∧ 0 < s.sweeps then noteM (sweepM s x.stk.toNat) ⟨2, x.item, x.stk⟩ else s) := by
      split
      · rename_i h2; exact okE_sweep h h2.2
      · exact h.e
    revert hE
    generalize (if s.load.getD x.stk.toNat 0 = cs.getD x.stk.toNat 0 ∧ 0 < s.sweeps then noteM (sweepM s x.stk.toNat) ⟨2, x.item, x.stk⟩ else s) = s2
    intro hE
    unfold tailM
    split
    · exact okM_over hE
    · exact okM_stack hE

theorem rej_heap (b : Fl) (cs : List Int) (s : MS) (x : Int) : mH b cs (rejM s x) = [.var [.raw (.slice none 0 0), .raw (.slice none 0 0), .raw (.slice none 0 0), .raw (.slice none 0 0), .raw (.slice none 0 0)], .vec 1 1 (refs 8 s.rows), .vec 1 1 (s.swept.map intAV), .vec 1 1 (s.load.map intAV), .var [.slo 1 1 0 cs.length, .slo 2 1 0 cs.length, .slo 5 (s.over.length) 0 (s.over.length), .slo 6 (s.rej.length + 1) 0 (s.rej.length + 1), .slo 7 (s.ev.length) 0 (s.ev.length), .sl 1 b (cs.map intAV), .slo 3 1 0 cs.length, .raw (.int .i64 (s.sweeps))], .vec 1 (s.over.length) (s.over.map intAV), .vec 1 (s.rej.length + 1) (s.rej.map intAV ++ [intAV x]), .vec 3 (s.ev.length) (s.ev.map evAV)] ++ s.rows.map rowO := by
  simp [mH, mF, rejM]
theorem over_heap (b : Fl) (cs : List Int) (s : MS) (x : Int) : mH b cs (overM s x) = [.var [.raw (.slice none 0 0), .raw (.slice none 0 0), .raw (.slice none 0 0), .raw (.slice none 0 0), .raw (.slice none 0 0)], .vec 1 1 (refs 8 s.rows), .vec 1 1 (s.swept.map intAV), .vec 1 1 (s.load.map intAV), .var [.slo 1 1 0 cs.length, .slo 2 1 0 cs.length, .slo 5 (s.over.length + 1) 0 (s.over.length + 1), .slo 6 (s.rej.length) 0 (s.rej.length), .slo 7 (s.ev.length) 0 (s.ev.length), .sl 1 b (cs.map intAV), .slo 3 1 0 cs.length, .raw (.int .i64 (s.sweeps))], .vec 1 (s.over.length + 1) (s.over.map intAV ++ [intAV x]), .vec 1 (s.rej.length) (s.rej.map intAV), .vec 3 (s.ev.length) (s.ev.map evAV)] ++ s.rows.map rowO := by
  simp [mH, mF, overM]
theorem sweep_heap (b : Fl) (cs : List Int) (s : MS) (k : Nat) (h : k < s.swept.length) : mH b cs (sweepM s k) = [.var [.raw (.slice none 0 0), .raw (.slice none 0 0), .raw (.slice none 0 0), .raw (.slice none 0 0), .raw (.slice none 0 0)], .vec 1 1 (refs 8 s.rows), .vec 1 1 ((s.swept.set k (s.swept[k] + 1)).map intAV), .vec 1 1 ((s.load.set k 0).map intAV), .var [.slo 1 1 0 cs.length, .slo 2 1 0 cs.length, .slo 5 (s.over.length) 0 (s.over.length), .slo 6 (s.rej.length) 0 (s.rej.length), .slo 7 (s.ev.length) 0 (s.ev.length), .sl 1 b (cs.map intAV), .slo 3 1 0 cs.length, .raw (.int .i64 (s.sweeps - 1))], .vec 1 (s.over.length) (s.over.map intAV), .vec 1 (s.rej.length) (s.rej.map intAV), .vec 3 (s.ev.length) (s.ev.map evAV)] ++ s.rows.map rowO := by
  simp [mH, mF, sweepM, h]
theorem stack_heap (b : Fl) (cs : List Int) (s : MS) (k : Nat) (x : Int) (h : k < s.load.length) (hr : k < s.rows.length) : mH b cs (stackM s k x) = [.var [.raw (.slice none 0 0), .raw (.slice none 0 0), .raw (.slice none 0 0), .raw (.slice none 0 0), .raw (.slice none 0 0)], .vec 1 1 ((refs 8 s.rows).set k (.slo (8 + k) (s.rows[k].length + 1) 0 (s.rows[k].length + 1))), .vec 1 1 (s.swept.map intAV), .vec 1 1 ((s.load.set k (s.load[k] + 1)).map intAV), .var [.slo 1 1 0 cs.length, .slo 2 1 0 cs.length, .slo 5 (s.over.length) 0 (s.over.length), .slo 6 (s.rej.length) 0 (s.rej.length), .slo 7 (s.ev.length) 0 (s.ev.length), .sl 1 b (cs.map intAV), .slo 3 1 0 cs.length, .raw (.int .i64 (s.sweeps))], .vec 1 (s.over.length) (s.over.map intAV), .vec 1 (s.rej.length) (s.rej.map intAV), .vec 3 (s.ev.length) (s.ev.map evAV)] ++ (s.rows.map rowO).set k (.vec 1 (s.rows[k].length + 1) (s.rows[k].map intAV ++ [intAV x])) := by
  simp [mH, mF, stackM, h, hr, ← refs_set, rowO, List.map_set]
noncomputable def r114_0 : Array Oper := opsAt Try.f114 [0]
theorem r114_0_ok : dstOk 150 r114_0.toList = true ∧ r114_0.toList.all (fun o => noDefer o.op) = true := by decide +kernel
noncomputable def r114_1 : Array Oper := opsAt Try.f114 [1, 0]
theorem r114_1_ok : dstOk 150 r114_1.toList = true ∧ r114_1.toList.all (fun o => noDefer o.op) = true := by decide +kernel
noncomputable def r114_2 : Array Oper := opsAt Try.f114 [1, 1, 0, 0]
theorem r114_2_ok : dstOk 150 r114_2.toList = true ∧ r114_2.toList.all (fun o => noDefer o.op) = true := by decide +kernel
noncomputable def r114_3 : Array Oper := opsAt Try.f114 [1, 1, 0, 1, 0, 0]
theorem r114_3_ok : dstOk 150 r114_3.toList = true ∧ r114_3.toList.all (fun o => noDefer o.op) = true := by decide +kernel
noncomputable def r114_4 : Array Oper := opsAt Try.f114 [1, 1, 0, 1, 0, 1, 0]
theorem r114_4_ok : dstOk 150 r114_4.toList = true ∧ r114_4.toList.all (fun o => noDefer o.op) = true := by decide +kernel
noncomputable def r114_5 : Array Oper := opsAt Try.f114 [1, 1, 1, 0, 0]
theorem r114_5_ok : dstOk 150 r114_5.toList = true ∧ r114_5.toList.all (fun o => noDefer o.op) = true := by decide +kernel
noncomputable def r114_6 : Array Oper := opsAt Try.f114 [1, 1, 1, 0, 1, 0, 0]
theorem r114_6_ok : dstOk 150 r114_6.toList = true ∧ r114_6.toList.all (fun o => noDefer o.op) = true := by decide +kernel
noncomputable def r114_7 : Array Oper := opsAt Try.f114 [1, 1, 1, 0, 1, 0, 1, 0]
theorem r114_7_ok : dstOk 150 r114_7.toList = true ∧ r114_7.toList.all (fun o => noDefer o.op) = true := by decide +kernel
noncomputable def r114_8 : Array Oper := opsAt Try.f114 [1, 1, 1, 0, 1, 0, 1, 1, 0]
theorem r114_8_ok : dstOk 150 r114_8.toList = true ∧ r114_8.toList.all (fun o => noDefer o.op) = true := by decide +kernel
noncomputable def r114_9 : Array Oper := opsAt Try.f114 [1, 1, 1, 0, 1, 0, 1, 1, 1]
theorem r114_9_ok : dstOk 150 r114_9.toList = true ∧ r114_9.toList.all (fun o => noDefer o.op) = true := by decide +kernel
noncomputable def r114_10 : Array Oper := opsAt Try.f114 [1, 1, 1, 1, 0, 0]
theorem r114_10_ok : dstOk 150 r114_10.toList = true ∧ r114_10.toList.all (fun o => noDefer o.op) = true := by decide +kernel
noncomputable def r114_11 : Array Oper := opsAt Try.f114 [1, 1, 1, 1, 0, 1, 0, 0]
theorem r114_11_ok : dstOk 150 r114_11.toList = true ∧ r114_11.toList.all (fun o => noDefer o.op) = true := by decide +kernel
noncomputable def r114_12 : Array Oper := opsAt Try.f114 [1, 1, 1, 1, 0, 1, 0, 1, 0]
theorem r114_12_ok : dstOk 150 r114_12.toList = true ∧ r114_12.toList.all (fun o => noDefer o.op) = true := by decide +kernel
noncomputable def r114_13 : Array Oper := opsAt Try.f114 [1, 1, 1, 1, 1, 0]
theorem r114_13_ok : dstOk 150 r114_13.toList = true ∧ r114_13.toList.all (fun o => noDefer o.op) = true := by decide +kernel
noncomputable def r114_14 : Array Oper := opsAt Try.f114 [1, 1, 1, 1, 1, 1, 0]
theorem r114_14_ok : dstOk 150 r114_14.toList = true ∧ r114_14.toList.all (fun o => noDefer o.op) = true := by decide +kernel
noncomputable def r114_15 : Array Oper := opsAt Try.f114 [1, 1, 1, 1, 1, 1, 1]
theorem r114_15_ok : dstOk 150 r114_15.toList = true ∧ r114_15.toList.all (fun o => noDefer o.op) = true := by decide +kernel
noncomputable def c114 : Code := (.seq (.region 0 r114_0 false) (.seq (.region 1 r114_1 false) (.seq (.seq (.region 2 r114_2 false) (.cond (.tmp 8) (.seq (.region 3 r114_3 true) (.seq (.region 4 r114_4 false) .ret)) .skip)) (.seq (.seq (.region 5 r114_5 true) (.cond (.tmp 49) (.seq (.region 6 r114_6 false) (.seq (.region 7 r114_7 false) (.seq (.region 8 r114_8 false) (.region 9 r114_9 false)))) .skip)) (.seq (.seq (.region 10 r114_10 true) (.cond (.tmp 94) (.seq (.region 11 r114_11 true) (.seq (.region 12 r114_12 false) .ret)) .skip)) (.seq (.region 13 r114_13 false) (.seq (.region 14 r114_14 true) (.region 15 r114_15 false))))))))
theorem body114 : Try.f114.body = some c114 := by kernel_rfl
def plan14 (k : Nat) : Plan := ⟨[[], [0], [0, 1], [0, 1, 2], [0, 1, 2, 3], [], [], [6], [6, 7], [6, 7, 8], [6, 7, 8, 9], [], [6, 7, 8, 9, 10, 11], [6, 7, 8, 9, 10, 11, 12], [], [14], [14, 15], [6, 7, 8, 9, 10, 11, 12, 13, 14, 15, 16], [0, 1, 2, 3, 4, 5, 6, 7, 8, 9, 10, 11, 12, 13, 14, 15, 16, 17], [0, 1, 2, 3, 4, 5, 6, 7, 8, 9, 10, 11, 12, 13, 14, 15, 16, 17, 18]], [[0], [124], [125], [126], [127], [4], [0], [130], [131], [132], [133], [4], [134, 135], [136], [3], [138], [139], [137, 140], [128, 129], [141, 142]], [[], [], [], [], [4], [], [], [], [], [], [4], [], [1], [1], [], [], [], [8 + k], [1], [1, 8 + k]], [none, none, none, none, none, none, none, none, none, none, none, none, none, none, none, none, none, some (8 + k), none, some 1]⟩
theorem plan14_all : ∀ k, k < 64 → (plan14 k).ok r114_14 = true := by decide +kernel
theorem plan14_ok (k : Nat) (h : k < 64) : (plan14 k).ok r114_14 = true := plan14_all k h

theorem rowG {l : List (List Int)} {k : Nat} {a0 a1 a2 a3 a4 a5 a6 a7 : AObj} (h : k < l.length) : (([a0, a1, a2, a3, a4, a5, a6, a7] : Heap) ++ l.map rowO)[8 + k]? = some (.vec 1 l[k].length (l[k].map intAV)) := by
  rw [List.getElem?_append_right (by simp), show 8 + k - ([a0, a1, a2, a3, a4, a5, a6, a7] : Heap).length = k by simp]; simp [h, rowO]
theorem rowS {l : List (List Int)} {k ver : Nat} {es : List AV} {a0 a1 a2 a3 a4 a5 a6 a7 : AObj} (h : k < l.length) : (([a0, a1, a2, a3, a4, a5, a6, a7] : Heap) ++ (l.map rowO).set k (.vec 1 ver es))[8 + k]? = some (.vec 1 ver es) := by
  rw [List.getElem?_append_right (by simp), show 8 + k - ([a0, a1, a2, a3, a4, a5, a6, a7] : Heap).length = k by simp]; simp [h]

theorem feed_ok (b : Fl) (cs : List Int) (hcs : cs.length ≤ 64) (B : Nat) (hB : B ≤ 100000) (s : MS) (ok : okM cs.length B s) (x : FeedR) (hx0 : -1 ≤ x.stk) (hx1 : x.stk < cs.length) : ACall Try.prog GL 114 [.ptr 4 0, feedAV x] (mH b cs s) (fun r H' => r = .tup [] ∧ H' = mH b cs (stepM cs s x)) := by
  refine acall_of_body Try.func114 body114 (Nat.le_of_ble_eq_true rfl) ?_
  refine w_keep [(0, .ptr 4 0), (1, feedAV x)] ⟨rfl, rfl, trivial⟩ ?_
  unfold c114
  have hel := ok.el; have hol := ok.ol; have hjl := ok.jl
  refine awp_seq ?_
  refine w_reg (l := r114_0.toList) rfl r114_0_ok ?_
  refine a_op rfl (o_box (N := (mH b cs s).length) rfl rfl rfl (snocX_ok _ _)) ?_
  refine a_nil ?_
  refine tq_n ?_
  refine awp_seq ?_
  refine w_cut [(0, .ptr 4 0), (3, .rp (feedAV x).cells)] (Nat.le_refl _) ⟨⟨_, rfl, .ptrK (show 4 < _ by rw [mH_len]; omega)⟩, ⟨_, rfl, rs_ptr (Nat.lt_irrefl _) (nthX_last _ _) rfl ⟨rs_pur (by simp) rfl, rs_pur (by simp) rfl, trivial⟩⟩, trivial⟩ mH_self ?_
  refine w_reg (l := r114_1.toList) rfl r114_1_ok ?_
  refine a_op rfl ((by first | exact o_fa tf75_1 rfl rfl | exact o_fap tf75_1 rfl rfl)) ?_
  refine a_op rfl ((by first | exact o_ld tg3 rfl rfl | exact o_ldp tg3 rfl rfl rfl rfl)) ?_
  refine a_op rfl (o_as rfl) ?_
  refine a_nil ?_
  refine tq_n ?_
  refine awp_seq ?_
  refine awp_seq ?_
  refine w_reg (l := r114_2.toList) rfl r114_2_ok ?_
  refine a_op rfl (o_mv rfl) ?_
  refine a_if rfl (o_lt rfl rfl) (fun h1 => ?_) (fun h2 => ?_)
  · refine a_nil ?_
    refine tq_n ?_
    refine w_true rfl ?_
    refine awp_seq ?_
    refine awp_draw ⟨[[], [], [1], [1, 2], [1, 2, 3], [1, 2, 3, 4], [], [6], [6, 7], [1, 2, 3, 4, 5, 6, 7, 8], [0, 1, 2, 3, 4, 5, 6, 7, 8, 9], [0, 1, 2, 3, 4, 5, 6, 7, 8, 9, 10], [0, 1, 2, 3, 4, 5, 6, 7, 8, 9, 10, 11], [0, 1, 2, 3, 4, 5, 6, 7, 8, 9, 10, 11, 12]], [[0], [0], [10], [11], [12], [13], [3], [15], [16], [14, 17], [9], [19], [20], [18, 21]], [[], [], [], [], [], [4], [], [], [], [6], [], [], [], [4, 6]], [none, none, none, none, none, none, none, none, none, some 6, none, none, none, some 4]⟩ mo r114_3_ok (by decide +kernel) (l := r114_3.toList) rfl ?_
    refine d_op rfl rfl rfl (fun _ => o_mv rfl) ?_
    refine d_op rfl rfl rfl (fun _ => o_mv rfl) ?_
    refine d_op rfl rfl rfl (fun _ => o_nc rfl rfl) ?_
    refine d_op rfl rfl rfl (fun _ => (by first | exact o_fa tf253_0 rfl rfl | exact o_fap tf253_0 rfl rfl)) ?_
    refine d_op rfl rfl rfl (fun _ => (by first | exact o_fa tf60_3 rfl rfl | exact o_fap tf60_3 rfl rfl)) ?_
    refine d_op rfl rfl rfl (fun _ => (by first | exact o_ld tg34 rfl rfl | exact o_ldp tg34 rfl rfl rfl rfl)) ?_
    refine d_op rfl rfl rfl (fun _ => (by first | exact o_fa tf75_0 rfl rfl | exact o_fap tf75_0 rfl rfl)) ?_
    refine d_op rfl rfl rfl (fun _ => (by first | exact o_ld tg3 rfl rfl | exact o_ldp tg3 rfl rfl rfl rfl)) ?_
    refine d_op rfl rfl rfl (fun _ => o_bs tE34 (by decide) rfl rfl rfl) ?_
    refine d_w rfl rfl rfl (fun _ => o_apD tE34 rfl rfl (by simp) rfl rfl rfl (by simp; omega) (by simp; omega) rfl rfl rfl) rfl rfl rfl ?_
    refine d_op rfl rfl rfl (fun _ => o_nc rfl rfl) ?_
    refine d_op rfl rfl rfl (fun _ => (by first | exact o_fa tf253_0 rfl rfl | exact o_fap tf253_0 rfl rfl)) ?_
    refine d_op rfl rfl rfl (fun _ => (by first | exact o_fa tf60_3 rfl rfl | exact o_fap tf60_3 rfl rfl)) ?_
    refine d_w0 rfl rfl rfl (fun _ => o_stD (N := 0) tn34 rfl rfl (by first | rfl | exact good_slo rfl) rfl rfl rfl) rfl rfl rfl ?_
    refine d_nil ?_
    refine tq_n ?_
    refine awp_seq ?_
    refine w_heq (rej_heap b cs s x.item).symm ?_
    refine w_reg (l := r114_4.toList) rfl r114_4_ok ?_
    refine a_op rfl (o_mv rfl) ?_
    refine a_op rfl ((by first | exact o_fa tf75_0 rfl rfl | exact o_fap tf75_0 rfl rfl)) ?_
    refine a_op rfl ((by first | exact o_ld tg3 rfl rfl | exact o_ldp tg3 rfl rfl rfl rfl)) ?_
    refine a_op rfl (o_bd tz79 rfl tp79 rfl rfl) ?_
    refine a_op rfl (o_bs tE58 (by decide) rfl rfl rfl) ?_
    refine a_call rfl rfl rfl cb142 (note_ok b cs (rejM s x.item) ⟨4, x.item, -1⟩ (by have := ok.el; simp [rejM]; omega) true).calls ?_
    rintro r H' ⟨rfl, rfl⟩
    refine a_nil ?_
    refine tq_n ?_
    refine awp_ret ?_
    refine tq_r ?_
    refine r_none rfl trivial ?_
    exact ⟨rfl, by rw [stepM, if_pos (by assumption)]⟩
  refine a_nil ?_
  refine tq_n ?_
  refine w_false rfl ?_
  refine awp_skip ?_
  refine tq_n ?_
  obtain ⟨k, hk⟩ : ∃ k : Nat, x.stk = k := ⟨x.stk.toNat, by omega⟩
  have hkc : k < cs.length := by omega
  have hk1 := ok.rows; have hk2 := ok.swept; have hk3 := ok.load
  have hkl : k < s.load.length := by omega
  have hks : k < s.swept.length := by omega
  have hkr : k < s.rows.length := by omega
  have hlv := ok.lb _ (List.getElem_mem hkl)
  have hsv := ok.sb _ (List.getElem_mem hks)
  have hs0 := ok.s0; have hs1 := ok.s1
  refine w_join (fun s2 : MS => s2 = (if s.load.getD k 0 = cs.getD k 0 ∧ 0 < s.sweeps then noteM (sweepM s k) ⟨2, x.item, x.stk⟩ else s) ∧ okE cs.length B s2) (fun _ => [(0, .ptr 4 0), (3, .rp (feedAV x).cells), (4, .raw (.int .i64 x.stk))]) (fun s2 => mH b cs s2) ?_ ?_
  · refine awp_seq ?_
    refine awp_draw ⟨[[], [0], [0, 1], [0, 1, 2], [], [0, 1, 2, 3, 4], [0, 1, 2, 3, 4, 5], [], [7], [7, 8], [7, 8, 9], [], [7, 8, 9, 10, 11], [7, 8, 9, 10, 11, 12], [0, 1, 2, 3, 4, 5, 6, 7, 8, 9, 10, 11, 12, 13], [0, 1, 2, 3, 4, 5, 6, 7, 8, 9, 10, 11, 12, 13, 14], [0, 1, 2, 3, 4, 5, 6, 7, 8, 9, 10, 11, 12, 13, 14, 15], [0, 1, 2, 3, 4, 5, 6, 7, 8, 9, 10, 11, 12, 13, 14, 15, 16], [0, 1, 2, 3, 4, 5, 6, 7, 8, 9, 10, 11, 12, 13, 14, 15, 16, 17], [0, 1, 2, 3, 4, 5, 6, 7, 8, 9, 10, 11, 12, 13, 14, 15, 16, 17, 18], [0, 1, 2, 3, 4, 5, 6, 7, 8, 9, 10, 11, 12, 13, 14, 15, 16, 17, 18, 19], [0, 1, 2, 3, 4, 5, 6, 7, 8, 9, 10, 11, 12, 13, 14, 15, 16, 17, 18, 19, 20]], [[0], [28], [29], [30], [4], [31, 32], [33], [0], [35], [36], [37], [4], [38, 39], [40], [34, 41], [42], [0, 43], [43, 44], [43, 45], [43, 46], [43, 47], [43, 48]], [[], [], [], [4], [], [3], [3], [], [], [], [4], [], [], [], [], [], [], [], [], [4], [], []], [none, none, none, none, none, none, none, none, none, none, none, none, none, none, none, none, none, none, none, none, none, none]⟩ mo r114_5_ok (by decide +kernel) (l := r114_5.toList) rfl ?_
    refine d_op rfl rfl rfl (fun _ => o_mv rfl) ?_
    refine d_op rfl rfl rfl (fun _ => o_nc rfl rfl) ?_
    refine d_op rfl rfl rfl (fun _ => (by first | exact o_fa tf253_2 rfl rfl | exact o_fap tf253_2 rfl rfl)) ?_
    refine d_op rfl rfl rfl (fun _ => (by first | exact o_ld tg34 rfl rfl | exact o_ldp tg34 rfl rfl rfl rfl)) ?_
    refine d_op rfl rfl rfl (fun _ => o_mv rfl) ?_
    refine d_op rfl rfl rfl (fun _ => o_ixo te34 tn3 rfl rfl rfl hk hkc) ?_
    refine d_op rfl rfl rfl (fun _ => o_ldp (el := intAV s.load[k]) tg3 rfl rfl (by rw [Nat.zero_add]; exact mAt hkl) rfl) ?_
    refine d_op rfl rfl rfl (fun _ => o_mv rfl) ?_
    refine d_op rfl rfl rfl (fun _ => o_nc rfl rfl) ?_
    refine d_op rfl rfl rfl (fun _ => (by first | exact o_fa tf253_1 rfl rfl | exact o_fap tf253_1 rfl rfl)) ?_
    refine d_op rfl rfl rfl (fun _ => (by first | exact o_ld tg34 rfl rfl | exact o_ldp tg34 rfl rfl rfl rfl)) ?_
    refine d_op rfl rfl rfl (fun _ => o_mv rfl) ?_
    refine d_op rfl rfl rfl (fun _ => o_ix te34 tn3 rfl rfl hk (mAt hkc)) ?_
    refine d_op rfl rfl rfl (fun _ => (by first | exact o_ld tg3 rfl rfl | exact o_ldp tg3 rfl rfl rfl rfl)) ?_
    refine d_if rfl rfl rfl (fun _ => o_eq rfl rfl) (fun h3 => ?_) (fun h4 => ?_)
    · refine d_op rfl rfl rfl (fun _ => o_mv rfl) ?_
      refine d_op rfl rfl rfl (fun _ => o_mv rfl) ?_
      refine d_op rfl rfl rfl (fun _ => o_nc rfl rfl) ?_
      refine d_op rfl rfl rfl (fun _ => (by first | exact o_fa tf253_3 rfl rfl | exact o_fap tf253_3 rfl rfl)) ?_
      refine d_op rfl rfl rfl (fun _ => (by first | exact o_ld tg3 rfl rfl | exact o_ldp tg3 rfl rfl rfl rfl)) ?_
      refine d_if rfl rfl rfl (fun _ => o_gt rfl rfl) (fun h5 => ?_) (fun h6 => ?_)
      · refine d_op rfl rfl rfl (fun _ => o_pkt rfl rfl) ?_
        refine d_nil ?_
        refine tq_n ?_
        refine w_true rfl ?_
        refine awp_seq ?_
        refine w_reg (l := r114_6.toList) rfl r114_6_ok ?_
        refine a_op rfl (o_mv rfl) ?_
        refine a_op rfl (o_nc rfl rfl) ?_
        refine a_op rfl ((by first | exact o_fa tf253_3 rfl rfl | exact o_fap tf253_3 rfl rfl)) ?_
        refine a_op rfl ((by first | exact o_ld tg3 rfl rfl | exact o_ldp tg3 rfl rfl rfl rfl)) ?_
        refine a_op rfl (o_sub rfl rfl (by simp only [klo, khi]; omega)) ?_
        refine a_op rfl (o_nc rfl rfl) ?_
        refine a_op rfl ((by first | exact o_fa tf253_3 rfl rfl | exact o_fap tf253_3 rfl rfl)) ?_
        refine a_op0 rfl (o_st (N := 0) tn3 rfl rfl (by first | rfl | exact good_slo rfl) rfl rfl) ?_
        refine a_nil ?_
        refine tq_n ?_
        refine awp_seq ?_
        refine w_reg (l := r114_7.toList) rfl r114_7_ok ?_
        refine a_op rfl (o_mv rfl) ?_
        refine a_op rfl (o_nc rfl rfl) ?_
        refine a_op rfl ((by first | exact o_fa tf253_2 rfl rfl | exact o_fap tf253_2 rfl rfl)) ?_
        refine a_op rfl ((by first | exact o_ld tg34 rfl rfl | exact o_ldp tg34 rfl rfl rfl rfl)) ?_
        refine a_op rfl (o_mv rfl) ?_
        refine a_op rfl (o_ixo te34 tn3 rfl rfl rfl hk hkc) ?_
        refine a_opH0 rfl (o_stp (N := 0) (el := intAV s.load[k]) tn3 rfl rfl rfl rfl rfl (by rw [Nat.zero_add]; exact mAt hkl) rfl (Nat.le_refl _)) (H' := [.var [.raw (.slice none 0 0), .raw (.slice none 0 0), .raw (.slice none 0 0), .raw (.slice none 0 0), .raw (.slice none 0 0)], .vec 1 1 (refs 8 s.rows), .vec 1 1 (s.swept.map intAV), .vec 1 1 ((s.load.set k (0)).map intAV), .var [.slo 1 1 0 cs.length, .slo 2 1 0 cs.length, .slo 5 (s.over.length) 0 (s.over.length), .slo 6 (s.rej.length) 0 (s.rej.length), .slo 7 (s.ev.length) 0 (s.ev.length), .sl 1 b (cs.map intAV), .slo 3 1 0 cs.length, .raw (.int .i64 (s.sweeps - 1))], .vec 1 (s.over.length) (s.over.map intAV), .vec 1 (s.rej.length) (s.rej.map intAV), .vec 3 (s.ev.length) (s.ev.map evAV)] ++ s.rows.map rowO) (by rw [Nat.zero_add]; exact congrArg (fun r => [.var [.raw (.slice none 0 0), .raw (.slice none 0 0), .raw (.slice none 0 0), .raw (.slice none 0 0), .raw (.slice none 0 0)], .vec 1 1 (refs 8 s.rows), .vec 1 1 (s.swept.map intAV), .vec 1 1 (r), .var [.slo 1 1 0 cs.length, .slo 2 1 0 cs.length, .slo 5 (s.over.length) 0 (s.over.length), .slo 6 (s.rej.length) 0 (s.rej.length), .slo 7 (s.ev.length) 0 (s.ev.length), .sl 1 b (cs.map intAV), .slo 3 1 0 cs.length, .raw (.int .i64 (s.sweeps - 1))], .vec 1 (s.over.length) (s.over.map intAV), .vec 1 (s.rej.length) (s.rej.map intAV), .vec 3 (s.ev.length) (s.ev.map evAV)] ++ s.rows.map rowO) List.map_set.symm) ?_
        refine a_nil ?_
        refine tq_n ?_
        refine awp_seq ?_
        refine w_reg (l := r114_8.toList) rfl r114_8_ok ?_
        refine a_op rfl (o_mv rfl) ?_
        refine a_op rfl (o_nc rfl rfl) ?_
        refine a_op rfl ((by first | exact o_fa tf253_0 rfl rfl | exact o_fap tf253_0 rfl rfl)) ?_
        refine a_op rfl ((by first | exact o_fa tf60_1 rfl rfl | exact o_fap tf60_1 rfl rfl)) ?_
        refine a_op rfl ((by first | exact o_ld tg34 rfl rfl | exact o_ldp tg34 rfl rfl rfl rfl)) ?_
        refine a_op rfl (o_mv rfl) ?_
        refine a_op rfl (o_ixo te34 tn3 rfl rfl rfl hk hkc) ?_
        refine a_op rfl (o_ldp (el := intAV s.swept[k]) tg3 rfl rfl (by rw [Nat.zero_add]; exact mAt hks) rfl) ?_
        refine a_op rfl (o_add rfl rfl (by simp only [klo, khi]; omega)) ?_
        refine a_op rfl (o_ixo te34 tn3 rfl rfl rfl hk hkc) ?_
        refine a_opH0 rfl (o_stp (N := 0) (el := intAV s.swept[k]) tn3 rfl rfl rfl rfl rfl (by rw [Nat.zero_add]; exact mAt hks) rfl (Nat.le_refl _)) (H' := [.var [.raw (.slice none 0 0), .raw (.slice none 0 0), .raw (.slice none 0 0), .raw (.slice none 0 0), .raw (.slice none 0 0)], .vec 1 1 (refs 8 s.rows), .vec 1 1 ((s.swept.set k (s.swept[k] + 1)).map intAV), .vec 1 1 ((s.load.set k 0).map intAV), .var [.slo 1 1 0 cs.length, .slo 2 1 0 cs.length, .slo 5 (s.over.length) 0 (s.over.length), .slo 6 (s.rej.length) 0 (s.rej.length), .slo 7 (s.ev.length) 0 (s.ev.length), .sl 1 b (cs.map intAV), .slo 3 1 0 cs.length, .raw (.int .i64 (s.sweeps - 1))], .vec 1 (s.over.length) (s.over.map intAV), .vec 1 (s.rej.length) (s.rej.map intAV), .vec 3 (s.ev.length) (s.ev.map evAV)] ++ s.rows.map rowO) (by rw [Nat.zero_add]; exact congrArg (fun r => [.var [.raw (.slice none 0 0), .raw (.slice none 0 0), .raw (.slice none 0 0), .raw (.slice none 0 0), .raw (.slice none 0 0)], .vec 1 1 (refs 8 s.rows), .vec 1 1 (r), .vec 1 1 ((s.load.set k 0).map intAV), .var [.slo 1 1 0 cs.length, .slo 2 1 0 cs.length, .slo 5 (s.over.length) 0 (s.over.length), .slo 6 (s.rej.length) 0 (s.rej.length), .slo 7 (s.ev.length) 0 (s.ev.length), .sl 1 b (cs.map intAV), .slo 3 1 0 cs.length, .raw (.int .i64 (s.sweeps - 1))], .vec 1 (s.over.length) (s.over.map intAV), .vec 1 (s.rej.length) (s.rej.map intAV), .vec 3 (s.ev.length) (s.ev.map evAV)] ++ s.rows.map rowO) List.map_set.symm) ?_
        refine a_nil ?_
        refine tq_n ?_
        refine w_heq (sweep_heap b cs s k hks).symm ?_
        refine w_reg (l := r114_9.toList) rfl r114_9_ok ?_
        refine a_op rfl (o_mv rfl) ?_
        refine a_op rfl ((by first | exact o_fa tf75_0 rfl rfl | exact o_fap tf75_0 rfl rfl)) ?_
        refine a_op rfl ((by first | exact o_ld tg3 rfl rfl | exact o_ldp tg3 rfl rfl rfl rfl)) ?_
        refine a_op rfl (o_mv rfl) ?_
        refine a_op rfl (o_bd tz79 rfl tp79 rfl rfl) ?_
        refine a_op rfl (o_bs tE58 (by decide) rfl rfl rfl) ?_
        refine a_call rfl rfl rfl cb142 (note_ok b cs (sweepM s k) ⟨2, x.item, x.stk⟩ (by have := ok.el; simp [sweepM]; omega) true).calls ?_
        rintro r H' ⟨rfl, rfl⟩
        refine a_nil ?_
        refine tq_n ?_
        exact ⟨noteM (sweepM s k) ⟨2, x.item, x.stk⟩, ⟨by rw [if_pos ⟨by rw [getDi hkl, getDi hkc]; assumption, by assumption⟩], okE_sweep ok (by assumption)⟩, ⟨(by first | exact sub_int rfl (by omega) | rfl), (by first | exact sub_int rfl (by omega) | rfl), (by first | exact sub_int rfl (by omega) | rfl), trivial⟩, rfl⟩
      refine d_op rfl rfl rfl (fun _ => o_pkt rfl rfl) ?_
      refine d_nil ?_
      refine tq_n ?_
      refine w_false rfl ?_
      refine awp_skip ?_
      refine tq_n ?_
      exact ⟨s, ⟨by rw [if_neg (by rw [getDi hkl, getDi hkc]; omega)], ok.e⟩, ⟨(by first | exact sub_int rfl (by omega) | rfl), (by first | exact sub_int rfl (by omega) | rfl), (by first | exact sub_int rfl (by omega) | rfl), trivial⟩, rfl⟩
    refine d_op rfl rfl rfl (fun _ => o_mv rfl) ?_
    refine d_off rfl rfl ?_
    refine d_off rfl rfl ?_
    refine d_off rfl rfl ?_
    refine d_off rfl rfl ?_
    refine d_off rfl rfl ?_
    refine d_op rfl rfl rfl (fun _ => o_pkf rfl rfl) ?_
    refine d_nil ?_
    refine tq_n ?_
    refine w_false rfl ?_
    refine awp_skip ?_
    refine tq_n ?_
    exact ⟨s, ⟨by rw [if_neg (by rw [getDi hkl, getDi hkc]; omega)], ok.e⟩, ⟨(by first | exact sub_int rfl (by omega) | rfl), (by first | exact sub_int rfl (by omega) | rfl), (by first | exact sub_int rfl (by omega) | rfl), trivial⟩, rfl⟩
  intro s2 ⟨hs2, ok2⟩
  have hk1 := ok2.rows; have hk2 := ok2.swept; have hk3 := ok2.load
  have hkl2 : k < s2.load.length := by omega
  have hkr2 : k < s2.rows.length := by omega
  have hlv2 := ok2.lb _ (List.getElem_mem hkl2)
  have hrl2 := ok2.rl _ (List.getElem_mem hkr2)
  have hel2 := ok2.el; have hol2 := ok2.ol
  refine awp_seq ?_
  refine awp_seq ?_
  refine awp_draw ⟨[[], [0], [0, 1], [0, 1, 2], [], [0, 1, 2, 3, 4], [0, 1, 2, 3, 4, 5], [], [7], [7, 8], [7, 8, 9], [], [7, 8, 9, 10, 11], [7, 8, 9, 10, 11, 12], [0, 1, 2, 3, 4, 5, 6, 7, 8, 9, 10, 11, 12, 13]], [[0], [80], [81], [82], [4], [83, 84], [85], [0], [87], [88], [89], [4], [90, 91], [92], [86, 93]], [[], [], [], [4], [], [3], [3], [], [], [], [4], [], [], [], []], [none, none, none, none, none, none, none, none, none, none, none, none, none, none, none]⟩ mo r114_10_ok (by decide +kernel) (l := r114_10.toList) rfl ?_
  refine d_op rfl rfl rfl (fun _ => o_mv rfl) ?_
  refine d_op rfl rfl rfl (fun _ => o_nc rfl rfl) ?_
  refine d_op rfl rfl rfl (fun _ => (by first | exact o_fa tf253_2 rfl rfl | exact o_fap tf253_2 rfl rfl)) ?_
  refine d_op rfl rfl rfl (fun _ => (by first | exact o_ld tg34 rfl rfl | exact o_ldp tg34 rfl rfl rfl rfl)) ?_
  refine d_op rfl rfl rfl (fun _ => o_mv rfl) ?_
  refine d_op rfl rfl rfl (fun _ => o_ixo te34 tn3 rfl rfl rfl hk hkc) ?_
  refine d_op rfl rfl rfl (fun _ => o_ldp (el := intAV s2.load[k]) tg3 rfl rfl (by rw [Nat.zero_add]; exact mAt hkl2) rfl) ?_
  refine d_op rfl rfl rfl (fun _ => o_mv rfl) ?_
  refine d_op rfl rfl rfl (fun _ => o_nc rfl rfl) ?_
  refine d_op rfl rfl rfl (fun _ => (by first | exact o_fa tf253_1 rfl rfl | exact o_fap tf253_1 rfl rfl)) ?_
  refine d_op rfl rfl rfl (fun _ => (by first | exact o_ld tg34 rfl rfl | exact o_ldp tg34 rfl rfl rfl rfl)) ?_
  refine d_op rfl rfl rfl (fun _ => o_mv rfl) ?_
  refine d_op rfl rfl rfl (fun _ => o_ix te34 tn3 rfl rfl hk (mAt hkc)) ?_
  refine d_op rfl rfl rfl (fun _ => (by first | exact o_ld tg3 rfl rfl | exact o_ldp tg3 rfl rfl rfl rfl)) ?_
  refine d_if rfl rfl rfl (fun _ => o_eq rfl rfl) (fun h7 => ?_) (fun h8 => ?_)
  · refine d_nil ?_
    refine tq_n ?_
    refine w_true rfl ?_
    refine awp_seq ?_
    refine awp_draw ⟨[[], [], [1], [1, 2], [1, 2, 3], [1, 2, 3, 4], [], [6], [6, 7], [1, 2, 3, 4, 5, 6, 7, 8], [0, 1, 2, 3, 4, 5, 6, 7, 8, 9], [0, 1, 2, 3, 4, 5, 6, 7, 8, 9, 10], [0, 1, 2, 3, 4, 5, 6, 7, 8, 9, 10, 11], [0, 1, 2, 3, 4, 5, 6, 7, 8, 9, 10, 11, 12]], [[0], [0], [96], [97], [98], [99], [3], [101], [102], [100, 103], [95], [105], [106], [104, 107]], [[], [], [], [], [], [4], [], [], [], [5], [], [], [], [4, 5]], [none, none, none, none, none, none, none, none, none, some 5, none, none, none, some 4]⟩ mo r114_11_ok (by decide +kernel) (l := r114_11.toList) rfl ?_
    refine d_op rfl rfl rfl (fun _ => o_mv rfl) ?_
    refine d_op rfl rfl rfl (fun _ => o_mv rfl) ?_
    refine d_op rfl rfl rfl (fun _ => o_nc rfl rfl) ?_
    refine d_op rfl rfl rfl (fun _ => (by first | exact o_fa tf253_0 rfl rfl | exact o_fap tf253_0 rfl rfl)) ?_
    refine d_op rfl rfl rfl (fun _ => (by first | exact o_fa tf60_2 rfl rfl | exact o_fap tf60_2 rfl rfl)) ?_
    refine d_op rfl rfl rfl (fun _ => (by first | exact o_ld tg34 rfl rfl | exact o_ldp tg34 rfl rfl rfl rfl)) ?_
    refine d_op rfl rfl rfl (fun _ => (by first | exact o_fa tf75_0 rfl rfl | exact o_fap tf75_0 rfl rfl)) ?_
    refine d_op rfl rfl rfl (fun _ => (by first | exact o_ld tg3 rfl rfl | exact o_ldp tg3 rfl rfl rfl rfl)) ?_
    refine d_op rfl rfl rfl (fun _ => o_bs tE34 (by decide) rfl rfl rfl) ?_
    refine d_w rfl rfl rfl (fun _ => o_apD tE34 rfl rfl (by simp) rfl rfl rfl (by simp; omega) (by simp; omega) rfl rfl rfl) rfl rfl rfl ?_
    refine d_op rfl rfl rfl (fun _ => o_nc rfl rfl) ?_
    refine d_op rfl rfl rfl (fun _ => (by first | exact o_fa tf253_0 rfl rfl | exact o_fap tf253_0 rfl rfl)) ?_
    refine d_op rfl rfl rfl (fun _ => (by first | exact o_fa tf60_2 rfl rfl | exact o_fap tf60_2 rfl rfl)) ?_
    refine d_w0 rfl rfl rfl (fun _ => o_stD (N := 0) tn34 rfl rfl (by first | rfl | exact good_slo rfl) rfl rfl rfl) rfl rfl rfl ?_
    refine d_nil ?_
    refine tq_n ?_
    refine awp_seq ?_
    refine w_heq (over_heap b cs s2 x.item).symm ?_
    refine w_reg (l := r114_12.toList) rfl r114_12_ok ?_
    refine a_op rfl (o_mv rfl) ?_
    refine a_op rfl ((by first | exact o_fa tf75_0 rfl rfl | exact o_fap tf75_0 rfl rfl)) ?_
    refine a_op rfl ((by first | exact o_ld tg3 rfl rfl | exact o_ldp tg3 rfl rfl rfl rfl)) ?_
    refine a_op rfl (o_mv rfl) ?_
    refine a_op rfl (o_bd tz79 rfl tp79 rfl rfl) ?_
    refine a_op rfl (o_bs tE58 (by decide) rfl rfl rfl) ?_
    refine a_call rfl rfl rfl cb142 (note_ok b cs (overM s2 x.item) ⟨3, x.item, x.stk⟩ (by simp [overM]; omega) true).calls ?_
    rintro r H' ⟨rfl, rfl⟩
    refine a_nil ?_
    refine tq_n ?_
    refine awp_ret ?_
    refine tq_r ?_
    refine r_none rfl trivial ?_
    refine ⟨rfl, ?_⟩
    rw [stepM, if_neg (by omega), show x.stk.toNat = k by omega, ← hs2, tailM, show x.stk.toNat = k by omega, if_pos (by rw [getDi hkl2, getDi hkc]; assumption)]
  refine d_nil ?_
  refine tq_n ?_
  refine w_false rfl ?_
  refine awp_skip ?_
  refine tq_n ?_
  refine awp_seq ?_
  refine w_reg (l := r114_13.toList) rfl r114_13_ok ?_
  refine a_op rfl (o_mv rfl) ?_
  refine a_op rfl (o_nc rfl rfl) ?_
  refine a_op rfl ((by first | exact o_fa tf253_2 rfl rfl | exact o_fap tf253_2 rfl rfl)) ?_
  refine a_op rfl ((by first | exact o_ld tg34 rfl rfl | exact o_ldp tg34 rfl rfl rfl rfl)) ?_
  refine a_op rfl (o_mv rfl) ?_
  refine a_op rfl (o_ixo te34 tn3 rfl rfl rfl hk hkc) ?_
  refine a_op rfl (o_ldp (el := intAV s2.load[k]) tg3 rfl rfl (by rw [Nat.zero_add]; exact mAt hkl2) rfl) ?_
  refine a_op rfl (o_add rfl rfl (by simp only [klo, khi]; omega)) ?_
  refine a_op rfl (o_ixo te34 tn3 rfl rfl rfl hk hkc) ?_
  refine a_opH0 rfl (o_stp (N := 0) (el := intAV s2.load[k]) tn3 rfl rfl rfl rfl rfl (by rw [Nat.zero_add]; exact mAt hkl2) rfl (Nat.le_refl _)) (H' := [.var [.raw (.slice none 0 0), .raw (.slice none 0 0), .raw (.slice none 0 0), .raw (.slice none 0 0), .raw (.slice none 0 0)], .vec 1 1 (refs 8 s2.rows), .vec 1 1 (s2.swept.map intAV), .vec 1 1 ((s2.load.set k (s2.load[k] + 1)).map intAV), .var [.slo 1 1 0 cs.length, .slo 2 1 0 cs.length, .slo 5 (s2.over.length) 0 (s2.over.length), .slo 6 (s2.rej.length) 0 (s2.rej.length), .slo 7 (s2.ev.length) 0 (s2.ev.length), .sl 1 b (cs.map intAV), .slo 3 1 0 cs.length, .raw (.int .i64 (s2.sweeps))], .vec 1 (s2.over.length) (s2.over.map intAV), .vec 1 (s2.rej.length) (s2.rej.map intAV), .vec 3 (s2.ev.length) (s2.ev.map evAV)] ++ s2.rows.map rowO) (by rw [Nat.zero_add]; exact congrArg (fun r => [.var [.raw (.slice none 0 0), .raw (.slice none 0 0), .raw (.slice none 0 0), .raw (.slice none 0 0), .raw (.slice none 0 0)], .vec 1 1 (refs 8 s2.rows), .vec 1 1 (s2.swept.map intAV), .vec 1 1 (r), .var [.slo 1 1 0 cs.length, .slo 2 1 0 cs.length, .slo 5 (s2.over.length) 0 (s2.over.length), .slo 6 (s2.rej.length) 0 (s2.rej.length), .slo 7 (s2.ev.length) 0 (s2.ev.length), .sl 1 b (cs.map intAV), .slo 3 1 0 cs.length, .raw (.int .i64 (s2.sweeps))], .vec 1 (s2.over.length) (s2.over.map intAV), .vec 1 (s2.rej.length) (s2.rej.map intAV), .vec 3 (s2.ev.length) (s2.ev.map evAV)] ++ s2.rows.map rowO) List.map_set.symm) ?_
  refine a_nil ?_
  refine tq_n ?_
  refine awp_seq ?_
  have hrg := refs_get 8 s2.rows k hkr2
  have hk64 : k < 64 := by omega
  have hrg0 : (refs 8 s2.rows)[0 + k]? = some (.slo (8 + k) s2.rows[k].length 0 s2.rows[k].length) := by rw [Nat.zero_add]; exact hrg
  have hg19 : ∀ y : Nat → AObj, (AV.slo (8 + k) (s2.rows[k].length + 1) 0 (s2.rows[k].length + 1)).goodPart (msk [1, 8 + k] y 0 ([.var [.raw (.slice none 0 0), .raw (.slice none 0 0), .raw (.slice none 0 0), .raw (.slice none 0 0), .raw (.slice none 0 0)], .vec 1 1 (refs 8 s2.rows), .vec 1 1 (s2.swept.map intAV), .vec 1 1 ((s2.load.set k (s2.load[k] + 1)).map intAV), .var [.slo 1 1 0 cs.length, .slo 2 1 0 cs.length, .slo 5 (s2.over.length) 0 (s2.over.length), .slo 6 (s2.rej.length) 0 (s2.rej.length), .slo 7 (s2.ev.length) 0 (s2.ev.length), .sl 1 b (cs.map intAV), .slo 3 1 0 cs.length, .raw (.int .i64 (s2.sweeps))], .vec 1 (s2.over.length) (s2.over.map intAV), .vec 1 (s2.rej.length) (s2.rej.map intAV), .vec 3 (s2.ev.length) (s2.ev.map evAV)] ++ (s2.rows.map rowO).set k (.vec 1 (s2.rows[k].length + 1) (s2.rows[k].map intAV ++ [intAV x.item])))) = true := fun y => good_slo' (msk_at (by simp) (rowS hkr2))
  refine awp_draw (plan14 k) mo r114_14_ok (plan14_ok k hk64) (l := r114_14.toList) rfl ?_
  refine d_op rfl rfl rfl (fun _ => o_mv rfl) ?_
  refine d_op rfl rfl rfl (fun _ => o_nc rfl rfl) ?_
  refine d_op rfl rfl rfl (fun _ => (by first | exact o_fa tf253_0 rfl rfl | exact o_fap tf253_0 rfl rfl)) ?_
  refine d_op rfl rfl rfl (fun _ => (by first | exact o_fa tf60_0 rfl rfl | exact o_fap tf60_0 rfl rfl)) ?_
  refine d_op rfl rfl rfl (fun _ => (by first | exact o_ld tg57 rfl rfl | exact o_ldp tg57 rfl rfl rfl rfl)) ?_
  refine d_op rfl rfl rfl (fun _ => o_mv rfl) ?_
  refine d_op rfl rfl rfl (fun _ => o_mv rfl) ?_
  refine d_op rfl rfl rfl (fun _ => o_nc rfl rfl) ?_
  refine d_op rfl rfl rfl (fun _ => (by first | exact o_fa tf253_0 rfl rfl | exact o_fap tf253_0 rfl rfl)) ?_
  refine d_op rfl rfl rfl (fun _ => (by first | exact o_fa tf60_0 rfl rfl | exact o_fap tf60_0 rfl rfl)) ?_
  refine d_op rfl rfl rfl (fun _ => (by first | exact o_ld tg57 rfl rfl | exact o_ldp tg57 rfl rfl rfl rfl)) ?_
  refine d_op rfl rfl rfl (fun _ => o_mv rfl) ?_
  refine d_op rfl rfl rfl (fun _ => o_ixo te57 tn34 rfl rfl rfl hk hkc) ?_
  refine d_op rfl rfl rfl (fun _ => o_ldp (el := .slo (8 + k) s2.rows[k].length 0 s2.rows[k].length) tg34 rfl rfl (by rw [Nat.zero_add]; exact hrg) rfl) ?_
  refine d_op rfl rfl rfl (fun _ => (by first | exact o_fa tf75_0 rfl rfl | exact o_fap tf75_0 rfl rfl)) ?_
  refine d_op rfl rfl rfl (fun _ => (by first | exact o_ld tg3 rfl rfl | exact o_ldp tg3 rfl rfl rfl rfl)) ?_
  refine d_op rfl rfl rfl (fun _ => o_bs tE34 (by decide) rfl rfl rfl) ?_
  refine d_w (ks := [8 + k]) rfl rfl rfl (fun y => o_apD tE34 rfl (msk_at (by simp) (rowG hkr2)) (by simp) rfl rfl rfl (by simp; omega) (by simp; omega) rfl rfl rfl) rfl (by simp) (setX_row rfl (by simpa using hkr2)) ?_
  refine d_op rfl rfl rfl (fun _ => o_ixo te57 tn34 rfl rfl rfl hk hkc) ?_
  refine d_w0 (ks := [1, 8 + k]) rfl rfl rfl (fun y => o_stp (N := 0) (el := .slo (8 + k) s2.rows[k].length 0 s2.rows[k].length) tn34 rfl rfl (hg19 y) rfl rfl hrg0 rfl (Nat.le_refl _)) rfl rfl rfl ?_
  refine d_nil ?_
  refine tq_n ?_
  refine w_heq (H1 := mH b cs (stackM s2 k x.item)) (by rw [stack_heap b cs s2 k x.item hkl2 hkr2, Nat.zero_add]; rfl) ?_
  refine w_reg (l := r114_15.toList) rfl r114_15_ok ?_
  refine a_op rfl (o_mv rfl) ?_
  refine a_op rfl ((by first | exact o_fa tf75_0 rfl rfl | exact o_fap tf75_0 rfl rfl)) ?_
  refine a_op rfl ((by first | exact o_ld tg3 rfl rfl | exact o_ldp tg3 rfl rfl rfl rfl)) ?_
  refine a_op rfl (o_mv rfl) ?_
  refine a_op rfl (o_bd tz79 rfl tp79 rfl rfl) ?_
  refine a_op rfl (o_bs tE58 (by decide) rfl rfl rfl) ?_
  refine a_call rfl rfl rfl cb142 (note_ok b cs (stackM s2 k x.item) ⟨1, x.item, x.stk⟩ (by simp [stackM]; omega) true).calls ?_
  rintro r H' ⟨rfl, rfl⟩
  refine a_nil ?_
  refine r_norm ?_
  refine r_none rfl trivial ?_
  refine ⟨rfl, ?_⟩
  rw [stepM, if_neg (by omega), show x.stk.toNat = k by omega, ← hs2, tailM, show x.stk.toNat = k by omega, if_neg (by rw [getDi hkl2, getDi hkc]; assumption)]
end Go.Ab.S
namespace Go.Ab.S
open Go Go.Ab Go.Proofs
def newM (cs : List Int) (sw : Int) : MS := ⟨List.replicate cs.length [], List.replicate cs.length 0, [], [], [], List.replicate cs.length 0, sw⟩
def playS (cs : List Int) (sw : Int) (l : List FeedR) (i : Nat) : MS := (l.take i).foldl (stepM cs) (newM cs sw)
def playF (cs : List Int) (sw : Int) (l : List FeedR) : MS := l.foldl (stepM cs) (newM cs sw)
theorem playS_all (cs : List Int) (sw : Int) (l : List FeedR) : playS cs sw l l.length = playF cs sw l := by simp [playS, playF]
theorem playS_succ {cs : List Int} {sw : Int} {l : List FeedR} {i : Nat} (h : i < l.length) : playS cs sw l (i + 1) = stepM cs (playS cs sw l i) l[i] := by
  unfold playS; rw [List.take_succ_eq_append_getElem h, List.foldl_append]; rfl
theorem newM_ok (cs : List Int) (sw : Int) (h0 : 0 ≤ sw) (h1 : sw ≤ 1000) : okM cs.length 0 (newM cs sw) where
  rows := by simp [newM]
  swept := by simp [newM]
  load := by simp [newM]
  rl := fun r hr => by simp [newM, List.mem_replicate] at hr; simp [hr.2]
  ol := by simp [newM]
  jl := by simp [newM]
  el := by simp [newM]
  sb := fun v hv => by simp [newM, List.mem_replicate] at hv; omega
  lb := fun v hv => by simp [newM, List.mem_replicate] at hv; omega
  s0 := h0
  s1 := h1
theorem playS_ok (cs : List Int) (sw : Int) (h0 : 0 ≤ sw) (h1 : sw ≤ 1000) (l : List FeedR) : ∀ i, i ≤ l.length → okM cs.length i (playS cs sw l i)
  | 0, _ => newM_ok cs sw h0 h1
  | i + 1, h => by rw [playS_succ (by omega)]; exact okM_step (playS_ok cs sw h0 h1 l i (by omega))
def passAV (s : MS) : AV := .agg [.sl 1 false (s.rows.map rowAV), rowAV s.swept, rowAV s.over, rowAV s.rej, .sl 3 false (s.ev.map evAV)]
@[simp] theorem pur_pass (s : MS) : Pur (passAV s) ↔ True := by simp [passAV]
theorem refs_nil : ∀ (m n : Nat), refs m (List.replicate n []) = (List.range n).map fun k => AV.slo (m + k) 0 0 0
  | m, 0 => rfl
  | m, n + 1 => by
    rw [List.replicate_succ, refs, refs_nil (m + 1) n, List.range_succ_eq_map, List.map_cons, List.map_map]
    simp only [List.length_nil, Nat.add_zero, List.cons.injEq, true_and]
    refine List.map_congr_left fun k _ => ?_
    simp only [Function.comp, Nat.succ_eq_add_one]
    rw [show m + 1 + k = m + (k + 1) by omega]
theorem new_heap (b : Fl) (cs : List Int) (sw : Int) : mH b cs (newM cs sw) = [.var [.raw (.slice none 0 0), .raw (.slice none 0 0), .raw (.slice none 0 0), .raw (.slice none 0 0), .raw (.slice none 0 0)], .vec 1 1 ((List.range cs.length).map fun k => AV.slo (8 + k) 0 0 0), .vec 1 1 (List.replicate cs.length (.raw (.int .i64 0))), .vec 1 1 (List.replicate cs.length (.raw (.int .i64 0))), .var [.slo 1 1 0 cs.length, .slo 2 1 0 cs.length, .slo 5 0 0 0, .slo 6 0 0 0, .slo 7 0 0 0, .sl 1 b (cs.map intAV), .slo 3 1 0 cs.length, .raw (.int .i64 sw)], .vec 1 0 [], .vec 1 0 [], .vec 3 0 []] ++ List.replicate cs.length (.vec 1 0 []) := by
  simp [mH, mF, newM, refs_nil, rowO, intAV]
theorem wrX_last : ∀ (H : Heap) (a b c d : AV), wrX (H ++ [.var [a, b]]) (.ptr H.length 0) [c, d] = some (H ++ [.var [c, d]]) := by
  intro H a b c d
  have h1 := nthX_last H (AObj.var [a, b])
  have h2 : setX (H ++ [AObj.var [a, b]]) H.length (.var [c, d]) = some (H ++ [.var [c, d]]) := by
    rw [setX_ok (by simp), List.set_append_right _ _ (Nat.le_refl _)]; simp
  unfold wrX
  simp only [h1, setsX, setX, h2]
theorem rs_rows {H : Heap} {rows : List (List Int)} {ver n : Nat} (h1 : H[1]? = some (.vec 1 ver (refs 8 rows))) (hn : n = rows.length) (h2 : ∀ k (h : k < rows.length), H[8 + k]? = some (.vec 1 rows[k].length (rows[k].map intAV))) :
    Rs H (fun _ => False) (.slo 1 ver 0 n) (.sl 1 false (rows.map rowAV)) := by
  subst hn
  refine .slo id h1 (by rw [refs_len]; omega) (by simp) (fun k x x' hx hx' => ?_) (fun k x x' hx hx' => ?_)
  · rw [List.drop_zero] at hx
    have hk := get_lt hx'
    simp only [List.length_map] at hk
    rw [refs_get 8 rows k hk] at hx
    simp [hk] at hx hx'
    subst hx; subst hx'
    rfl
  · rw [List.drop_zero] at hx
    have hk := get_lt hx'
    simp only [List.length_map] at hk
    rw [refs_get 8 rows k hk] at hx
    simp [hk] at hx hx'
    subst hx; subst hx'
    exact rs_slo id (h2 k hk) (by simp) (pu_int _) rfl

noncomputable def r75_0 : Array Oper := opsAt Try.f75 [0]
theorem r75_0_ok : dstOk 38 r75_0.toList = true ∧ r75_0.toList.all (fun o => noDefer o.op) = true := by decide +kernel
noncomputable def r75_1 : Array Oper := opsAt Try.f75 [1, 0]
theorem r75_1_ok : dstOk 38 r75_1.toList = true ∧ r75_1.toList.all (fun o => noDefer o.op) = true := by decide +kernel
noncomputable def r75_2 : Array Oper := opsAt Try.f75 [1, 1, 0, 0]
theorem r75_2_ok : dstOk 38 r75_2.toList = true ∧ r75_2.toList.all (fun o => noDefer o.op) = true := by decide +kernel
noncomputable def r75_3 : Array Oper := opsAt Try.f75 [1, 1, 0, 1, 0, 0, 0]
theorem r75_3_ok : dstOk 38 r75_3.toList = true ∧ r75_3.toList.all (fun o => noDefer o.op) = true := by decide +kernel
noncomputable def r75_4 : Array Oper := opsAt Try.f75 [1, 1, 0, 1, 0, 0, 1, 1, 0, 0, 0]
theorem r75_4_ok : dstOk 38 r75_4.toList = true ∧ r75_4.toList.all (fun o => noDefer o.op) = true := by decide +kernel
noncomputable def r75_5 : Array Oper := opsAt Try.f75 [1, 1, 0, 1, 0, 0, 1, 1, 0, 0, 1]
theorem r75_5_ok : dstOk 38 r75_5.toList = true ∧ r75_5.toList.all (fun o => noDefer o.op) = true := by decide +kernel
noncomputable def r75_6 : Array Oper := opsAt Try.f75 [1, 1, 0, 1, 0, 0, 1, 1, 1]
theorem r75_6_ok : dstOk 38 r75_6.toList = true ∧ r75_6.toList.all (fun o => noDefer o.op) = true := by decide +kernel
noncomputable def b75_0 : Code := (.seq (.region 3 r75_3 false) (.seq (.cond (.tmp 27) .skip (.exit 0)) (.seq (.block 1 (.seq (.region 4 r75_4 false) (.region 5 r75_5 false))) (.region 6 r75_6 false))))
noncomputable def r75_7 : Array Oper := opsAt Try.f75 [1, 1, 1, 0]
theorem r75_7_ok : dstOk 38 r75_7.toList = true ∧ r75_7.toList.all (fun o => noDefer o.op) = true := by decide +kernel
noncomputable def c75 : Code := (.seq (.region 0 r75_0 false) (.seq (.region 1 r75_1 true) (.seq (.seq (.region 2 r75_2 false) (.block 0 (.loop b75_0))) (.seq (.region 7 r75_7 false) .ret))))
theorem body75 : Try.f75.body = some c75 := by kernel_rfl
theorem play_ok (b : Fl) (cs : List Int) (hcs : cs.length ≤ 64) (sw : Int) (hs0 : 0 ≤ sw) (hs1 : sw ≤ 1000) (b2 : Fl) (l : List FeedR) (hl2 : l.length ≤ 2000) (hin : ∀ x ∈ l, -1 ≤ x.stk ∧ x.stk < cs.length) : PureCall Try.prog GL 75 [.sl 1 b (cs.map intAV), .raw (.int .i64 sw), .sl 2 b2 (l.map feedAV)] (passAV (playF cs sw l)) := by
  refine pure_of_body Try.func75 body75 (Nat.le_of_ble_eq_true rfl) (by simp) (by simp) ?_
  refine w_keep [(0, .sl 1 b (cs.map intAV)), (1, .raw (.int .i64 sw)), (2, .sl 2 b2 (l.map feedAV))] ⟨rfl, rfl, rfl, trivial⟩ ?_
  unfold c75
  refine awp_seq ?_
  refine w_reg (l := r75_0.toList) rfl r75_0_ok ?_
  refine a_op rfl (o_al (N := 0) tz60 rfl rfl rfl) ?_
  refine a_nil ?_
  refine tq_n ?_
  refine awp_seq ?_
  have h0 : (0 : Int) ≤ (cs.length : Nat) := by omega
  have hb8 : ((8 : Nat) : Int) * (cs.length : Nat) ≤ 281474976710656 := by omega
  have hb24 : ((24 : Nat) : Int) * (cs.length : Nat) ≤ 281474976710656 := by omega
  have h63 : ((cs.length : Nat) : Int) ≤ 9223372036854775807 := by omega
  refine w_ph 1 (by decide) rfl ?_
  refine w_ph 1 (by decide) rfl ?_
  refine w_ph 1 (by decide) rfl ?_
  refine w_phd rfl ?_
  refine awp_draw ⟨[[], [0], [0, 1], [], [3], [3, 4], [0, 1, 2, 3, 4, 5], [], [], [8], [8, 9], [], [0, 1, 2, 3, 4, 5, 6, 7, 8, 9, 10, 11], [0, 1, 2, 3, 4, 5, 6, 7, 8, 9, 10, 11, 12], [0, 1, 2, 3, 4, 5, 6, 7, 8, 9, 10, 11, 12, 13]], [[0], [10], [11], [0], [13], [14], [12, 15], [0], [0], [18], [19], [1], [16, 17, 20, 21], [22], [23]], [[], [], [1], [], [], [2], [1, 2], [], [], [], [3], [], [1, 2, 3], [1, 2, 3, 4], []], [none, none, some 1, none, none, some 2, none, none, none, none, some 3, none, none, some 4, none]⟩ mo r75_1_ok (by decide +kernel) (l := r75_1.toList) rfl ?_
  refine d_op rfl rfl rfl (fun _ => o_mv rfl) ?_
  refine d_op rfl rfl rfl (fun _ => o_len rfl rfl (by first | exact List.length_map .. | rfl) tl34) ?_
  refine d_w rfl rfl rfl (fun _ => o_msD tE57 rfl rfl h0 (Int.le_refl _) hb24 h63 rfl) rfl rfl rfl ?_
  refine d_op rfl rfl rfl (fun _ => o_mv rfl) ?_
  refine d_op rfl rfl rfl (fun _ => o_len rfl rfl (by first | exact List.length_map .. | rfl) tl34) ?_
  refine d_w rfl rfl rfl (fun _ => o_msD tE34 rfl rfl h0 (Int.le_refl _) hb8 h63 rfl) rfl rfl rfl ?_
  refine d_op rfl rfl rfl (fun _ => o_bd tz60 rfl tp60 rfl rfl) ?_
  refine d_op rfl rfl rfl (fun _ => o_mv rfl) ?_
  refine d_op rfl rfl rfl (fun _ => o_mv rfl) ?_
  refine d_op rfl rfl rfl (fun _ => o_len rfl rfl (by first | exact List.length_map .. | rfl) tl34) ?_
  refine d_w rfl rfl rfl (fun _ => o_msD tE34 rfl rfl h0 (Int.le_refl _) hb8 h63 rfl) rfl rfl rfl ?_
  refine d_op rfl rfl rfl (fun _ => o_mv rfl) ?_
  refine d_op rfl rfl rfl (fun _ => o_bd tz253 rfl tp253 rfl rfl) ?_
  refine d_w rfl rfl rfl (fun _ => o_boxD rfl rfl rfl) rfl rfl rfl ?_
  refine d_op rfl rfl rfl (fun _ => o_as rfl) ?_
  refine d_nil ?_
  refine tq_n ?_
  refine awp_seq ?_
  refine awp_seq ?_
  refine w_ownc (i := 4) (j := 2) (z := 1) (N := 5) (by decide) rfl rfl rfl rfl rfl rfl ?_
  refine w_ownc (i := 4) (j := 3) (z := 1) (N := 6) (by decide) rfl rfl rfl rfl rfl rfl ?_
  refine w_ownc (i := 4) (j := 4) (z := 3) (N := 7) (by decide) rfl rfl rfl rfl rfl rfl ?_
  refine w_owns (i := 1) (z := 1) (ver := 1) (by decide) cs.length (List.replicate cs.length (.raw (.slice none 0 0))) (fun k hk => by simp [hk]) (by simp) ?_
  refine w_heq (H1 := mH b cs (newM cs sw)) (by rw [new_heap]; simp) ?_
  refine w_reg (l := r75_2.toList) rfl r75_2_ok ?_
  refine a_op rfl (o_mv rfl) ?_
  refine a_op rfl (o_len rfl rfl (by first | exact List.length_map .. | rfl) tl68) ?_
  refine a_op rfl (o_mv rfl) ?_
  refine a_nil ?_
  refine tq_n ?_
  refine awp_block ?_
  refine w_loop (fun i : Nat => i ≤ l.length) (fun i => [(6, .ptr 0 0), (7, .ptr 4 0), (24, .sl 2 b2 (l.map feedAV)), (25, .raw (.int .i64 ((l.length : Nat) : Int))), (26, .raw (.int .i64 ((i : Nat) : Int)))]) (fun i => mH b cs (playS cs sw l i)) (fun i => l.length - i) (0) (by simp) ⟨(by first | exact sub_int rfl (by omega) | rfl), (by first | exact sub_int rfl (by omega) | rfl), (by first | exact sub_int rfl (by omega) | rfl), (by first | exact sub_int rfl (by omega) | rfl), (by first | exact sub_int rfl (by omega) | rfl), trivial⟩ rfl ?_
  intro i hp
  have hok := playS_ok cs sw hs0 hs1 l i hp
  have hrw := hok.rows
  unfold b75_0
  refine awp_seq ?_
  refine w_reg (l := r75_3.toList) rfl r75_3_ok ?_
  refine a_if rfl (o_lt rfl rfl) (fun h1 => ?_) (fun h2 => ?_)
  · refine a_nil ?_
    refine tq_n ?_
    refine awp_seq ?_
    refine w_true rfl ?_
    refine awp_skip ?_
    refine tq_n ?_
    refine awp_seq ?_
    refine awp_block ?_
    refine awp_seq ?_
    have hi : i < l.length := by omega
    have hxi := hin _ (List.getElem_mem hi)
    refine w_reg (l := r75_4.toList) rfl r75_4_ok ?_
    refine a_op rfl (o_ix te68 tn75 rfl rfl rfl (ixm _ _ _ hi)) ?_
    refine a_op rfl ((by first | exact o_ldg tg75 tn75 rfl rfl | exact o_ldpg tg75 tn75 rfl rfl rfl rfl)) ?_
    refine a_op rfl (o_al (N := (mH b cs (playS cs sw l i)).length) tz75 rfl rfl (snocX_ok _ _)) ?_
    refine a_op0 rfl (o_st (N := 1) tn75 rfl rfl rfl rfl (wrX_last _ _ _ _ _)) ?_
    refine a_nil ?_
    refine tq_n ?_
    refine w_cut [(6, .ptr 0 0), (7, .ptr 4 0), (24, .sl 2 b2 (l.map feedAV)), (25, .raw (.int .i64 ((l.length : Nat) : Int))), (26, .raw (.int .i64 ((i : Nat) : Int))), (9, .rp (feedAV l[i]).cells)] (Nat.zero_le _) ⟨⟨_, rfl, (by first | exact .ptrK (show _ < _ by rw [mH_len]; omega) | exact rs_pur (by simp) rfl | exact rs_ptr (Nat.lt_irrefl _) (nthX_last _ _) rfl ⟨rs_pur (by simp) rfl, rs_pur (by simp) rfl, trivial⟩)⟩, ⟨_, rfl, (by first | exact .ptrK (show _ < _ by rw [mH_len]; omega) | exact rs_pur (by simp) rfl | exact rs_ptr (Nat.lt_irrefl _) (nthX_last _ _) rfl ⟨rs_pur (by simp) rfl, rs_pur (by simp) rfl, trivial⟩)⟩, ⟨_, rfl, (by first | exact .ptrK (show _ < _ by rw [mH_len]; omega) | exact rs_pur (by simp) rfl | exact rs_ptr (Nat.lt_irrefl _) (nthX_last _ _) rfl ⟨rs_pur (by simp) rfl, rs_pur (by simp) rfl, trivial⟩)⟩, ⟨_, rfl, (by first | exact .ptrK (show _ < _ by rw [mH_len]; omega) | exact rs_pur (by simp) rfl | exact rs_ptr (Nat.lt_irrefl _) (nthX_last _ _) rfl ⟨rs_pur (by simp) rfl, rs_pur (by simp) rfl, trivial⟩)⟩, ⟨_, rfl, (by first | exact .ptrK (show _ < _ by rw [mH_len]; omega) | exact rs_pur (by simp) rfl | exact rs_ptr (Nat.lt_irrefl _) (nthX_last _ _) rfl ⟨rs_pur (by simp) rfl, rs_pur (by simp) rfl, trivial⟩)⟩, ⟨_, rfl, (by first | exact .ptrK (show _ < _ by rw [mH_len]; omega) | exact rs_pur (by simp) rfl | exact rs_ptr (Nat.lt_irrefl _) (nthX_last _ _) rfl ⟨rs_pur (by simp) rfl, rs_pur (by simp) rfl, trivial⟩)⟩, trivial⟩ mH_self ?_
    refine w_reg (l := r75_5.toList) rfl r75_5_ok ?_
    refine a_op rfl (o_mv rfl) ?_
    refine a_op rfl ((by first | exact o_ldg tg75 tn75 rfl rfl | exact o_ldpg tg75 tn75 rfl rfl rfl rfl)) ?_
    refine a_call rfl rfl rfl cb114 (feed_ok b cs hcs i (by omega) (playS cs sw l i) hok l[i] hxi.1 hxi.2).calls ?_
    rintro r H' ⟨rfl, rfl⟩
    refine a_nil ?_
    refine bq_n ?_
    refine tq_n ?_
    refine w_reg (l := r75_6.toList) rfl r75_6_ok ?_
    refine a_op rfl (o_add rfl rfl (by simp only [klo, khi]; omega)) ?_
    refine a_op rfl (o_mv rfl) ?_
    refine a_nil ?_
    refine tq_n ?_
    exact ⟨i + 1, ⟨by omega, by omega⟩, ⟨(by first | exact sub_int rfl (by omega) | rfl), (by first | exact sub_int rfl (by omega) | rfl), (by first | exact sub_int rfl (by omega) | rfl), (by first | exact sub_int rfl (by omega) | rfl), (by first | exact sub_int rfl (by omega) | rfl), trivial⟩, by rw [playS_succ hi]⟩
  refine a_nil ?_
  refine tq_n ?_
  refine awp_seq ?_
  refine w_false rfl ?_
  refine awp_exit ?_
  refine tq_x ?_
  refine tq_x ?_
  refine bq_hit ?_
  refine tq_n ?_
  refine awp_seq ?_
  refine w_reg (l := r75_7.toList) rfl r75_7_ok ?_
  refine a_op rfl (o_mv rfl) ?_
  refine a_op rfl (o_nc rfl rfl) ?_
  refine a_op rfl ((by first | exact o_fa tf253_0 rfl rfl | exact o_fap tf253_0 rfl rfl)) ?_
  refine a_op rfl ((by first | exact o_ldg tg60 tn60 rfl rfl | exact o_ldpg tg60 tn60 rfl rfl rfl rfl)) ?_
  refine a_op0 rfl (o_st (N := 4) tn60 rfl rfl (by first | exact good_slo rfl | rfl | (simp [AV.goodPart, AV.good, AV.isCell, fresh, mH, mF]; done)) rfl rfl) ?_
  refine a_nil ?_
  refine tq_n ?_
  refine awp_ret ?_
  refine r_one rfl ⟨c_ag tg60 tn60 rfl rfl, trivial⟩ ?_
  have he : playS cs sw l i = playF cs sw l := by rw [← playS_all, show i = l.length by omega]
  rw [← he]
  exact rs_agg ⟨rs_rows rfl hrw.symm (fun k hk => rowG hk), rs_slo id rfl (by have := hok.swept; simp; omega) (pu_int _) rfl, rs_slo id rfl (by simp) (pu_int _) rfl, rs_slo id rfl (by simp) (pu_int _) rfl, rs_slo id rfl (by simp) (pu_ev _) rfl, trivial⟩
end Go.Ab.S
namespace Go.Ab.S
open Go Go.Ab Go.Proofs

noncomputable def r116_0 : Array Oper := opsAt Try.f116 [0]
theorem r116_0_ok : dstOk 27 r116_0.toList = true ∧ r116_0.toList.all (fun o => noDefer o.op) = true := by decide +kernel
noncomputable def r116_1 : Array Oper := opsAt Try.f116 [1, 0, 0]
theorem r116_1_ok : dstOk 27 r116_1.toList = true ∧ r116_1.toList.all (fun o => noDefer o.op) = true := by decide +kernel
noncomputable def r116_2 : Array Oper := opsAt Try.f116 [1, 0, 1, 0]
theorem r116_2_ok : dstOk 27 r116_2.toList = true ∧ r116_2.toList.all (fun o => noDefer o.op) = true := by decide +kernel
noncomputable def r116_3 : Array Oper := opsAt Try.f116 [1, 1, 0, 0]
theorem r116_3_ok : dstOk 27 r116_3.toList = true ∧ r116_3.toList.all (fun o => noDefer o.op) = true := by decide +kernel
noncomputable def r116_4 : Array Oper := opsAt Try.f116 [1, 1, 0, 1, 0]
theorem r116_4_ok : dstOk 27 r116_4.toList = true ∧ r116_4.toList.all (fun o => noDefer o.op) = true := by decide +kernel
noncomputable def r116_5 : Array Oper := opsAt Try.f116 [1, 1, 0, 1, 1, 0]
theorem r116_5_ok : dstOk 27 r116_5.toList = true ∧ r116_5.toList.all (fun o => noDefer o.op) = true := by decide +kernel
noncomputable def r116_6 : Array Oper := opsAt Try.f116 [1, 1, 1, 0]
theorem r116_6_ok : dstOk 27 r116_6.toList = true ∧ r116_6.toList.all (fun o => noDefer o.op) = true := by decide +kernel
noncomputable def c116 : Code := (.seq (.region 0 r116_0 false) (.seq (.seq (.region 1 r116_1 false) (.cond (.tmp 6) (.region 2 r116_2 false) .skip)) (.seq (.seq (.region 3 r116_3 false) (.seq (.region 4 r116_4 false) (.cond (.tmp 16) (.region 5 r116_5 false) .skip))) (.seq (.region 6 r116_6 false) .ret))))
theorem body116 : Try.f116.body = some c116 := by kernel_rfl
theorem grow_ok (n : Nat) (h0 : 0 < n) (hn : n ≤ 1000000) : ACall Try.prog GL 116 [.raw (.slice none 0 0), .raw (.int .i64 ((n : Nat) : Int))] ([]) (fun r H' => r = .slo 0 0 0 0 ∧ H' = [.vec 1 0 (List.replicate n (intAV 0))]) := by
  refine acall_of_body Try.func116 body116 (Nat.le_of_ble_eq_true rfl) ?_
  refine w_keep [(0, .raw (.slice none 0 0)), (1, .raw (.int .i64 ((n : Nat) : Int)))] ⟨rfl, rfl, trivial⟩ ?_
  unfold c116
  refine awp_seq ?_
  refine w_reg (l := r116_0.toList) rfl r116_0_ok ?_
  refine a_op rfl (o_as rfl) ?_
  refine a_nil ?_
  refine tq_n ?_
  refine awp_seq ?_
  refine awp_seq ?_
  refine w_reg (l := r116_1.toList) rfl r116_1_ok ?_
  refine a_op rfl (o_mv rfl) ?_
  refine a_if rfl (o_lt rfl rfl) (fun h1 => ?_) (fun h2 => ?_)
  · omega
  refine a_nil ?_
  refine tq_n ?_
  refine w_false rfl ?_
  refine awp_skip ?_
  refine tq_n ?_
  refine awp_seq ?_
  refine awp_seq ?_
  refine w_reg (l := r116_3.toList) rfl r116_3_ok ?_
  refine a_op rfl (o_mv rfl) ?_
  refine a_op rfl (o_mv rfl) ?_
  refine a_op rfl (o_capn tl34 rfl) ?_
  refine a_op rfl (o_mv rfl) ?_
  refine a_op rfl (o_len rfl rfl (by first | exact List.length_map .. | rfl) tl34) ?_
  refine a_op rfl (o_sub rfl rfl (by simp only [klo, khi]; omega)) ?_
  refine a_op rfl (o_sub rfl rfl (by simp only [klo, khi]; omega)) ?_
  refine a_op rfl (o_as rfl) ?_
  refine a_nil ?_
  refine tq_n ?_
  refine awp_seq ?_
  refine w_reg (l := r116_4.toList) rfl r116_4_ok ?_
  refine a_op rfl (o_mv rfl) ?_
  refine a_if rfl (o_gt rfl rfl) (fun h3 => ?_) (fun h4 => ?_)
  · refine a_nil ?_
    refine tq_n ?_
    refine w_true rfl ?_
    refine w_reg (l := r116_5.toList) rfl r116_5_ok ?_
    refine a_op rfl (o_mv rfl) ?_
    refine a_op rfl (o_mv rfl) ?_
    refine a_op rfl (o_capn tl34 rfl) ?_
    refine a_op rfl (o_sln te34 tn3 rfl rfl) ?_
    refine a_op rfl (o_mv rfl) ?_
    refine a_op rfl (o_apz (N := 0) (n := n) (H' := [.vec 1 0 (List.replicate n (intAV 0))]) tE34 tk3 rfl rfl (by omega) (by omega) (by omega) (by omega) rfl rfl) ?_
    refine a_op rfl (o_mv rfl) ?_
    refine a_op rfl (o_len rfl rfl (by first | exact List.length_map .. | rfl) tl34) ?_
    refine a_op rfl (o_slh (m := 0) te34 tn3 rfl rfl rfl rfl (Nat.zero_le _)) ?_
    refine a_op rfl (o_as rfl) ?_
    refine a_nil ?_
    refine tq_n ?_
    refine awp_seq ?_
    refine w_reg (l := r116_6.toList) rfl r116_6_ok ?_
    refine a_op rfl (o_mv rfl) ?_
    refine a_op rfl (o_as rfl) ?_
    refine a_nil ?_
    refine tq_n ?_
    refine awp_ret ?_
    refine r_one rfl ⟨rfl, trivial⟩ ?_
    exact ⟨rfl, rfl⟩
  omega
theorem grow0_ok (n : Nat) (h0 : n = 0) : ACall Try.prog GL 116 [.raw (.slice none 0 0), .raw (.int .i64 ((n : Nat) : Int))] ([]) (fun r H' => r = .raw (.slice none 0 0) ∧ H' = []) := by
  refine acall_of_body Try.func116 body116 (Nat.le_of_ble_eq_true rfl) ?_
  refine w_keep [(0, .raw (.slice none 0 0)), (1, .raw (.int .i64 ((n : Nat) : Int)))] ⟨rfl, rfl, trivial⟩ ?_
  unfold c116
  refine awp_seq ?_
  refine w_reg (l := r116_0.toList) rfl r116_0_ok ?_
  refine a_op rfl (o_as rfl) ?_
  refine a_nil ?_
  refine tq_n ?_
  refine awp_seq ?_
  refine awp_seq ?_
  refine w_reg (l := r116_1.toList) rfl r116_1_ok ?_
  refine a_op rfl (o_mv rfl) ?_
  refine a_if rfl (o_lt rfl rfl) (fun h1 => ?_) (fun h2 => ?_)
  · omega
  refine a_nil ?_
  refine tq_n ?_
  refine w_false rfl ?_
  refine awp_skip ?_
  refine tq_n ?_
  refine awp_seq ?_
  refine awp_seq ?_
  refine w_reg (l := r116_3.toList) rfl r116_3_ok ?_
  refine a_op rfl (o_mv rfl) ?_
  refine a_op rfl (o_mv rfl) ?_
  refine a_op rfl (o_capn tl34 rfl) ?_
  refine a_op rfl (o_mv rfl) ?_
  refine a_op rfl (o_len rfl rfl (by first | exact List.length_map .. | rfl) tl34) ?_
  refine a_op rfl (o_sub rfl rfl (by simp only [klo, khi]; omega)) ?_
  refine a_op rfl (o_sub rfl rfl (by simp only [klo, khi]; omega)) ?_
  refine a_op rfl (o_as rfl) ?_
  refine a_nil ?_
  refine tq_n ?_
  refine awp_seq ?_
  refine w_reg (l := r116_4.toList) rfl r116_4_ok ?_
  refine a_op rfl (o_mv rfl) ?_
  refine a_if rfl (o_gt rfl rfl) (fun h3 => ?_) (fun h4 => ?_)
  · omega
  refine a_nil ?_
  refine tq_n ?_
  refine w_false rfl ?_
  refine awp_skip ?_
  refine tq_n ?_
  refine awp_seq ?_
  refine w_reg (l := r116_6.toList) rfl r116_6_ok ?_
  refine a_op rfl (o_mv rfl) ?_
  refine a_op rfl (o_as rfl) ?_
  refine a_nil ?_
  refine tq_n ?_
  refine awp_ret ?_
  refine r_one rfl ⟨rfl, trivial⟩ ?_
  exact ⟨rfl, rfl⟩

def sumL (rows : List (List Int)) (i : Nat) : Nat := ((rows.take i).flatten).length
theorem sumL_succ {rows : List (List Int)} {i : Nat} (h : i < rows.length) : sumL rows (i + 1) = sumL rows i + rows[i].length := by
  unfold sumL; rw [List.take_succ_eq_append_getElem h, List.flatten_append, List.length_append]; simp only [List.flatten_cons, List.flatten_nil, List.append_nil]
theorem sumL_le (rows : List (List Int)) (i : Nat) : sumL rows i ≤ rows.flatten.length := by
  unfold sumL
  have : rows.flatten = (rows.take i).flatten ++ (rows.drop i).flatten := by rw [← List.flatten_append, List.take_append_drop]
  rw [this, List.length_append]; omega
theorem sumL_all (rows : List (List Int)) : sumL rows rows.length = rows.flatten.length := by rw [sumL, List.take_length]
/-- The row in the making. -/
def catE (rows : List (List Int)) (i : Nat) : List AV := if i = 0 then List.replicate rows.flatten.length (intAV 0) else (rows.take i).flatten.map intAV
theorem catE_succ {rows : List (List Int)} {i : Nat} (h : i < rows.length) : catE rows (i + 1) = (rows.take i).flatten.map intAV ++ rows[i].map intAV := by
  unfold catE; rw [if_neg (by omega), List.take_succ_eq_append_getElem h, List.flatten_append, List.map_append]; simp only [List.flatten_cons, List.flatten_nil, List.append_nil]
theorem catE_all (rows : List (List Int)) : catE rows rows.length = rows.flatten.map intAV := by
  unfold catE; split
  · rename_i h; have : rows = [] := List.length_eq_zero_iff.1 h
    subst this; rfl
  · rw [List.take_length]
@[simp] theorem good_int (H : Heap) (x : Int) : (intAV x).goodPart H = true := rfl
theorem cat_op {F : Frm} {rows : List (List Int)} {i : Nat} {x y : Operand} (h : i < rows.length) (hx : evx F x = some (.slo 0 i 0 (sumL rows i))) (hy : evx F y = some (rowAV rows[i])) (hb : rows.flatten.length ≤ 1000000) :
    OpOk Try.prog (.call { callee := .builtin .append, args := #[x, y], argTypes := #[34, 34] }) F [.vec 1 i (catE rows i)] (.slo 0 (i + 1) 0 (sumL rows (i + 1))) [.vec 1 (i + 1) (catE rows (i + 1))] := by
  have h1 := sumL_le rows (i + 1)
  have h2 := sumL_succ h
  rw [h2, catE_succ h]
  rcases Nat.eq_zero_or_pos i with h0 | h0
  · subst h0
    have hs : sumL rows 0 = 0 := rfl
    rw [hs] at hx h2
    rw [hs]
    exact o_apc tE34 hx rfl hy rfl (by simp) (by rw [catE, if_pos rfl, List.length_replicate, List.length_map]; omega) rfl (by rw [List.length_map]) (by simp) rfl
  · have hc : catE rows i = (rows.take i).flatten.map intAV := by unfold catE; rw [if_neg (by omega)]
    rw [hc]
    have hl : ((rows.take i).flatten.map intAV).length = sumL rows i := by rw [List.length_map, sumL]
    exact o_ap tE34 hx rfl hl.symm hy rfl (by simp) (by rw [hl, List.length_map]; omega) (by rw [hl, List.length_map]; omega) rfl (by rw [List.length_map]) rfl rfl

noncomputable def r78_0 : Array Oper := opsAt Try.f78 [0]
theorem r78_0_ok : dstOk 36 r78_0.toList = true ∧ r78_0.toList.all (fun o => noDefer o.op) = true := by decide +kernel
noncomputable def r78_1 : Array Oper := opsAt Try.f78 [1, 0]
theorem r78_1_ok : dstOk 36 r78_1.toList = true ∧ r78_1.toList.all (fun o => noDefer o.op) = true := by decide +kernel
noncomputable def r78_2 : Array Oper := opsAt Try.f78 [1, 1, 0, 0]
theorem r78_2_ok : dstOk 36 r78_2.toList = true ∧ r78_2.toList.all (fun o => noDefer o.op) = true := by decide +kernel
noncomputable def r78_3 : Array Oper := opsAt Try.f78 [1, 1, 0, 1, 0, 0, 0]
theorem r78_3_ok : dstOk 36 r78_3.toList = true ∧ r78_3.toList.all (fun o => noDefer o.op) = true := by decide +kernel
noncomputable def r78_4 : Array Oper := opsAt Try.f78 [1, 1, 0, 1, 0, 0, 1, 1, 0, 0, 0]
theorem r78_4_ok : dstOk 36 r78_4.toList = true ∧ r78_4.toList.all (fun o => noDefer o.op) = true := by decide +kernel
noncomputable def r78_5 : Array Oper := opsAt Try.f78 [1, 1, 0, 1, 0, 0, 1, 1, 0, 0, 1, 0]
theorem r78_5_ok : dstOk 36 r78_5.toList = true ∧ r78_5.toList.all (fun o => noDefer o.op) = true := by decide +kernel
noncomputable def r78_6 : Array Oper := opsAt Try.f78 [1, 1, 0, 1, 0, 0, 1, 1, 0, 0, 1, 1, 0]
theorem r78_6_ok : dstOk 36 r78_6.toList = true ∧ r78_6.toList.all (fun o => noDefer o.op) = true := by decide +kernel
noncomputable def r78_7 : Array Oper := opsAt Try.f78 [1, 1, 0, 1, 0, 0, 1, 1, 0, 0, 1, 1, 1, 0]
theorem r78_7_ok : dstOk 36 r78_7.toList = true ∧ r78_7.toList.all (fun o => noDefer o.op) = true := by decide +kernel
noncomputable def r78_8 : Array Oper := opsAt Try.f78 [1, 1, 0, 1, 0, 0, 1, 1, 1]
theorem r78_8_ok : dstOk 36 r78_8.toList = true ∧ r78_8.toList.all (fun o => noDefer o.op) = true := by decide +kernel
noncomputable def b78_0 : Code := (.seq (.region 3 r78_3 false) (.seq (.cond (.tmp 12) .skip (.exit 0)) (.seq (.block 1 (.seq (.region 4 r78_4 false) (.seq (.region 5 r78_5 false) (.seq (.region 6 r78_6 false) (.cond (.tmp 20) (.region 7 r78_7 false) .skip))))) (.region 8 r78_8 false))))
noncomputable def r78_9 : Array Oper := opsAt Try.f78 [1, 1, 1, 0]
theorem r78_9_ok : dstOk 36 r78_9.toList = true ∧ r78_9.toList.all (fun o => noDefer o.op) = true := by decide +kernel
noncomputable def r78_10 : Array Oper := opsAt Try.f78 [1, 1, 1, 1, 0, 0]
theorem r78_10_ok : dstOk 36 r78_10.toList = true ∧ r78_10.toList.all (fun o => noDefer o.op) = true := by decide +kernel
noncomputable def r78_11 : Array Oper := opsAt Try.f78 [1, 1, 1, 1, 0, 1, 0, 0, 0]
theorem r78_11_ok : dstOk 36 r78_11.toList = true ∧ r78_11.toList.all (fun o => noDefer o.op) = true := by decide +kernel
noncomputable def r78_12 : Array Oper := opsAt Try.f78 [1, 1, 1, 1, 0, 1, 0, 0, 1, 1, 0, 0, 0]
theorem r78_12_ok : dstOk 36 r78_12.toList = true ∧ r78_12.toList.all (fun o => noDefer o.op) = true := by decide +kernel
noncomputable def r78_13 : Array Oper := opsAt Try.f78 [1, 1, 1, 1, 0, 1, 0, 0, 1, 1, 0, 0, 1]
theorem r78_13_ok : dstOk 36 r78_13.toList = true ∧ r78_13.toList.all (fun o => noDefer o.op) = true := by decide +kernel
noncomputable def r78_14 : Array Oper := opsAt Try.f78 [1, 1, 1, 1, 0, 1, 0, 0, 1, 1, 1]
theorem r78_14_ok : dstOk 36 r78_14.toList = true ∧ r78_14.toList.all (fun o => noDefer o.op) = true := by decide +kernel
noncomputable def b78_1 : Code := (.seq (.region 11 r78_11 false) (.seq (.cond (.tmp 28) .skip (.exit 2)) (.seq (.block 3 (.seq (.region 12 r78_12 false) (.region 13 r78_13 false))) (.region 14 r78_14 false))))
noncomputable def r78_15 : Array Oper := opsAt Try.f78 [1, 1, 1, 1, 1, 0]
theorem r78_15_ok : dstOk 36 r78_15.toList = true ∧ r78_15.toList.all (fun o => noDefer o.op) = true := by decide +kernel
noncomputable def c78 : Code := (.seq (.region 0 r78_0 false) (.seq (.region 1 r78_1 false) (.seq (.seq (.region 2 r78_2 false) (.block 0 (.loop b78_0))) (.seq (.region 9 r78_9 false) (.seq (.seq (.region 10 r78_10 false) (.block 2 (.loop b78_1))) (.seq (.region 15 r78_15 false) .ret))))))
theorem body78 : Try.f78.body = some c78 := by kernel_rfl
theorem concat_ok (b : Fl) (rows : List (List Int)) (hl : rows.length ≤ 100000) (hb : rows.flatten.length ≤ 1000000) : PureCall Try.prog GL 78 [.sl 1 b (rows.map rowAV)] (rowAV rows.flatten) := by
  refine pure_of_body Try.func78 body78 (Nat.le_of_ble_eq_true rfl) (by simp) (by simp) ?_
  refine w_keep [(0, .sl 1 b (rows.map rowAV))] ⟨rfl, trivial⟩ ?_
  unfold c78
  refine awp_seq ?_
  refine w_reg (l := r78_0.toList) rfl r78_0_ok ?_
  refine a_op rfl (o_as rfl) ?_
  refine a_nil ?_
  refine tq_n ?_
  refine awp_seq ?_
  refine w_reg (l := r78_1.toList) rfl r78_1_ok ?_
  refine a_op rfl (o_as rfl) ?_
  refine a_nil ?_
  refine tq_n ?_
  refine awp_seq ?_
  refine awp_seq ?_
  refine w_reg (l := r78_2.toList) rfl r78_2_ok ?_
  refine a_op rfl (o_mv rfl) ?_
  refine a_op rfl (o_len rfl rfl (by first | exact List.length_map .. | rfl) tl57) ?_
  refine a_op rfl (o_mv rfl) ?_
  refine a_nil ?_
  refine tq_n ?_
  refine awp_block ?_
  refine w_loop (fun i : Nat => i ≤ rows.length) (fun i => [(0, .sl 1 b (rows.map rowAV)), (3, .raw (.int .i64 ((sumL rows i : Nat) : Int))), (9, .sl 1 b (rows.map rowAV)), (10, .raw (.int .i64 ((rows.length : Nat) : Int))), (11, .raw (.int .i64 ((i : Nat) : Int)))]) (fun _ => []) (fun i => rows.length - i) (0) (by simp) ⟨(by first | exact sub_int rfl (by omega) | rfl | exact sub_int rfl (by simp [sumL_succ, *]) | exact sub_int rfl (by rw [sumL_succ hi]; rfl) | exact sub_int rfl (by simp [sumL])), (by first | exact sub_int rfl (by omega) | rfl | exact sub_int rfl (by simp [sumL_succ, *]) | exact sub_int rfl (by rw [sumL_succ hi]; rfl) | exact sub_int rfl (by simp [sumL])), (by first | exact sub_int rfl (by omega) | rfl | exact sub_int rfl (by simp [sumL_succ, *]) | exact sub_int rfl (by rw [sumL_succ hi]; rfl) | exact sub_int rfl (by simp [sumL])), (by first | exact sub_int rfl (by omega) | rfl | exact sub_int rfl (by simp [sumL_succ, *]) | exact sub_int rfl (by rw [sumL_succ hi]; rfl) | exact sub_int rfl (by simp [sumL])), (by first | exact sub_int rfl (by omega) | rfl | exact sub_int rfl (by simp [sumL_succ, *]) | exact sub_int rfl (by rw [sumL_succ hi]; rfl) | exact sub_int rfl (by simp [sumL])), trivial⟩ rfl ?_
  intro i hp
  have hs1 := sumL_le rows i
  unfold b78_0
  refine awp_seq ?_
  refine w_reg (l := r78_3.toList) rfl r78_3_ok ?_
  refine a_if rfl (o_lt rfl rfl) (fun h1 => ?_) (fun h2 => ?_)
  · refine a_nil ?_
    refine tq_n ?_
    refine awp_seq ?_
    refine w_true rfl ?_
    refine awp_skip ?_
    refine tq_n ?_
    refine awp_seq ?_
    refine awp_block ?_
    refine awp_seq ?_
    have hi : i < rows.length := by omega
    have hs2 := sumL_succ hi
    have hs3 := sumL_le rows (i + 1)
    refine w_reg (l := r78_4.toList) rfl r78_4_ok ?_
    refine a_op rfl (o_ix te57 tn34 rfl rfl rfl (ixm _ _ _ hi)) ?_
    refine a_op rfl ((by first | exact o_ld tg34 rfl rfl | exact o_ldp tg34 rfl rfl rfl rfl)) ?_
    refine a_op rfl (o_as rfl) ?_
    refine a_nil ?_
    refine tq_n ?_
    refine awp_seq ?_
    refine w_reg (l := r78_5.toList) rfl r78_5_ok ?_
    refine a_op rfl (o_mv rfl) ?_
    refine a_op rfl (o_mv rfl) ?_
    refine a_op rfl (o_len rfl rfl (by first | exact List.length_map .. | rfl) tl34) ?_
    refine a_op rfl (o_add rfl rfl (by simp only [klo, khi]; omega)) ?_
    refine a_op rfl (o_as rfl) ?_
    refine a_nil ?_
    refine tq_n ?_
    refine awp_seq ?_
    refine w_reg (l := r78_6.toList) rfl r78_6_ok ?_
    refine a_op rfl (o_mv rfl) ?_
    refine a_if rfl (o_lt rfl rfl) (fun h3 => ?_) (fun h4 => ?_)
    · omega
    refine a_nil ?_
    refine tq_n ?_
    refine w_false rfl ?_
    refine awp_skip ?_
    refine bq_n ?_
    refine tq_n ?_
    refine w_reg (l := r78_8.toList) rfl r78_8_ok ?_
    refine a_op rfl (o_add rfl rfl (by simp only [klo, khi]; omega)) ?_
    refine a_op rfl (o_mv rfl) ?_
    refine a_nil ?_
    refine tq_n ?_
    exact ⟨i + 1, ⟨by omega, by omega⟩, ⟨(by first | exact sub_int rfl (by omega) | rfl | exact sub_int rfl (by simp [sumL_succ, *]) | exact sub_int rfl (by rw [sumL_succ hi]; rfl) | exact sub_int rfl (by simp [sumL])), (by first | exact sub_int rfl (by omega) | rfl | exact sub_int rfl (by simp [sumL_succ, *]) | exact sub_int rfl (by rw [sumL_succ hi]; rfl) | exact sub_int rfl (by simp [sumL])), (by first | exact sub_int rfl (by omega) | rfl | exact sub_int rfl (by simp [sumL_succ, *]) | exact sub_int rfl (by rw [sumL_succ hi]; rfl) | exact sub_int rfl (by simp [sumL])), (by first | exact sub_int rfl (by omega) | rfl | exact sub_int rfl (by simp [sumL_succ, *]) | exact sub_int rfl (by rw [sumL_succ hi]; rfl) | exact sub_int rfl (by simp [sumL])), (by first | exact sub_int rfl (by omega) | rfl | exact sub_int rfl (by simp [sumL_succ, *]) | exact sub_int rfl (by rw [sumL_succ hi]; rfl) | exact sub_int rfl (by simp [sumL])), trivial⟩, rfl⟩
  refine a_nil ?_
  refine tq_n ?_
  refine awp_seq ?_
  refine w_false rfl ?_
  refine awp_exit ?_
  refine tq_x ?_
  refine tq_x ?_
  refine bq_hit ?_
  refine tq_n ?_
  refine awp_seq ?_
  refine w_reg (l := r78_9.toList) rfl r78_9_ok ?_
  refine a_op rfl (o_mv rfl) ?_
  rcases Nat.eq_zero_or_pos rows.flatten.length with hz | hz
  · refine a_call rfl rfl rfl cb116 (by rw [show i = rows.length by omega, sumL_all]; exact (grow0_ok _ hz).calls) ?_
    rintro r H' ⟨rfl, rfl⟩
    refine a_op rfl (o_as rfl) ?_
    refine a_nil ?_
    refine tq_n ?_
    refine awp_seq ?_
    refine awp_seq ?_
    refine w_own (q := 6) (z := 1) (N := 0) (by decide) rfl rfl rfl ?_
    refine w_heq (H1 := [.vec 1 0 (catE rows 0)]) (by rw [catE, if_pos rfl, hz]; rfl) ?_
    refine w_reg (l := r78_10.toList) rfl r78_10_ok ?_
    refine a_op rfl (o_mv rfl) ?_
    refine a_op rfl (o_len rfl rfl (by first | exact List.length_map .. | rfl) tl57) ?_
    refine a_op rfl (o_mv rfl) ?_
    refine a_nil ?_
    refine tq_n ?_
    refine awp_block ?_
    refine w_loop (fun j : Nat => j ≤ rows.length) (fun j => [(6, .slo 0 j 0 (sumL rows j)), (25, .sl 1 b (rows.map rowAV)), (26, .raw (.int .i64 ((rows.length : Nat) : Int))), (27, .raw (.int .i64 ((j : Nat) : Int)))]) (fun j => [.vec 1 j (catE rows j)]) (fun j => rows.length - j) (0) (by simp) ⟨(by first | exact sub_int rfl (by omega) | rfl | exact sub_int rfl (by simp [sumL_succ, *]) | exact sub_int rfl (by rw [sumL_succ hi]; rfl) | exact sub_int rfl (by simp [sumL])), (by first | exact sub_int rfl (by omega) | rfl | exact sub_int rfl (by simp [sumL_succ, *]) | exact sub_int rfl (by rw [sumL_succ hi]; rfl) | exact sub_int rfl (by simp [sumL])), (by first | exact sub_int rfl (by omega) | rfl | exact sub_int rfl (by simp [sumL_succ, *]) | exact sub_int rfl (by rw [sumL_succ hi]; rfl) | exact sub_int rfl (by simp [sumL])), (by first | exact sub_int rfl (by omega) | rfl | exact sub_int rfl (by simp [sumL_succ, *]) | exact sub_int rfl (by rw [sumL_succ hi]; rfl) | exact sub_int rfl (by simp [sumL])), trivial⟩ rfl ?_
    intro j hq
    unfold b78_1
    refine awp_seq ?_
    refine w_reg (l := r78_11.toList) rfl r78_11_ok ?_
    refine a_if rfl (o_lt rfl rfl) (fun h5 => ?_) (fun h6 => ?_)
    · refine a_nil ?_
      refine tq_n ?_
      refine awp_seq ?_
      refine w_true rfl ?_
      refine awp_skip ?_
      refine tq_n ?_
      refine awp_seq ?_
      refine awp_block ?_
      refine awp_seq ?_
      have hj : j < rows.length := by omega
      refine w_reg (l := r78_12.toList) rfl r78_12_ok ?_
      refine a_op rfl (o_ix te57 tn34 rfl rfl rfl (ixm _ _ _ hj)) ?_
      refine a_op rfl ((by first | exact o_ld tg34 rfl rfl | exact o_ldp tg34 rfl rfl rfl rfl)) ?_
      refine a_op rfl (o_as rfl) ?_
      refine a_nil ?_
      refine tq_n ?_
      refine w_reg (l := r78_13.toList) rfl r78_13_ok ?_
      refine a_op rfl (o_mv rfl) ?_
      refine a_op rfl (o_mv rfl) ?_
      refine a_op rfl (cat_op hj rfl rfl hb) ?_
      refine a_op rfl (o_as rfl) ?_
      refine a_nil ?_
      refine bq_n ?_
      refine tq_n ?_
      refine w_reg (l := r78_14.toList) rfl r78_14_ok ?_
      refine a_op rfl (o_add rfl rfl (by simp only [klo, khi]; omega)) ?_
      refine a_op rfl (o_mv rfl) ?_
      refine a_nil ?_
      refine tq_n ?_
      exact ⟨j + 1, ⟨by omega, by omega⟩, ⟨(by first | exact sub_int rfl (by omega) | rfl | exact sub_int rfl (by simp [sumL_succ, *]) | exact sub_int rfl (by rw [sumL_succ hi]; rfl) | exact sub_int rfl (by simp [sumL])), (by first | exact sub_int rfl (by omega) | rfl | exact sub_int rfl (by simp [sumL_succ, *]) | exact sub_int rfl (by rw [sumL_succ hi]; rfl) | exact sub_int rfl (by simp [sumL])), (by first | exact sub_int rfl (by omega) | rfl | exact sub_int rfl (by simp [sumL_succ, *]) | exact sub_int rfl (by rw [sumL_succ hi]; rfl) | exact sub_int rfl (by simp [sumL])), (by first | exact sub_int rfl (by omega) | rfl | exact sub_int rfl (by simp [sumL_succ, *]) | exact sub_int rfl (by rw [sumL_succ hi]; rfl) | exact sub_int rfl (by simp [sumL])), trivial⟩, rfl⟩
    refine a_nil ?_
    refine tq_n ?_
    refine awp_seq ?_
    refine w_false rfl ?_
    refine awp_exit ?_
    refine tq_x ?_
    refine tq_x ?_
    refine bq_hit ?_
    refine tq_n ?_
    refine awp_seq ?_
    refine w_reg (l := r78_15.toList) rfl r78_15_ok ?_
    refine a_op rfl (o_mv rfl) ?_
    refine a_op rfl (o_as rfl) ?_
    refine a_nil ?_
    refine tq_n ?_
    refine awp_ret ?_
    refine r_one rfl ⟨rfl, trivial⟩ ?_
    have hjl : j = rows.length := by omega
    subst hjl
    exact rs_slo id rfl (by rw [sumL_all, catE_all, List.length_map]) (pu_int _) (catE_all rows).symm
  refine a_call rfl rfl rfl cb116 (by rw [show i = rows.length by omega, sumL_all]; exact (grow_ok _ hz (by omega)).calls) ?_
  rintro r H' ⟨rfl, rfl⟩
  refine a_op rfl (o_as rfl) ?_
  refine a_nil ?_
  refine tq_n ?_
  refine awp_seq ?_
  refine awp_seq ?_
  refine w_heq (H1 := [.vec 1 0 (catE rows 0)]) (by rw [catE, if_pos rfl]) ?_
  refine w_reg (l := r78_10.toList) rfl r78_10_ok ?_
  refine a_op rfl (o_mv rfl) ?_
  refine a_op rfl (o_len rfl rfl (by first | exact List.length_map .. | rfl) tl57) ?_
  refine a_op rfl (o_mv rfl) ?_
  refine a_nil ?_
  refine tq_n ?_
  refine awp_block ?_
  refine w_loop (fun j : Nat => j ≤ rows.length) (fun j => [(6, .slo 0 j 0 (sumL rows j)), (25, .sl 1 b (rows.map rowAV)), (26, .raw (.int .i64 ((rows.length : Nat) : Int))), (27, .raw (.int .i64 ((j : Nat) : Int)))]) (fun j => [.vec 1 j (catE rows j)]) (fun j => rows.length - j) (0) (by simp) ⟨(by first | exact sub_int rfl (by omega) | rfl | exact sub_int rfl (by simp [sumL_succ, *]) | exact sub_int rfl (by rw [sumL_succ hi]; rfl) | exact sub_int rfl (by simp [sumL])), (by first | exact sub_int rfl (by omega) | rfl | exact sub_int rfl (by simp [sumL_succ, *]) | exact sub_int rfl (by rw [sumL_succ hi]; rfl) | exact sub_int rfl (by simp [sumL])), (by first | exact sub_int rfl (by omega) | rfl | exact sub_int rfl (by simp [sumL_succ, *]) | exact sub_int rfl (by rw [sumL_succ hi]; rfl) | exact sub_int rfl (by simp [sumL])), (by first | exact sub_int rfl (by omega) | rfl | exact sub_int rfl (by simp [sumL_succ, *]) | exact sub_int rfl (by rw [sumL_succ hi]; rfl) | exact sub_int rfl (by simp [sumL])), trivial⟩ rfl ?_
  intro j hq
  unfold b78_1
  refine awp_seq ?_
  refine w_reg (l := r78_11.toList) rfl r78_11_ok ?_
  refine a_if rfl (o_lt rfl rfl) (fun h7 => ?_) (fun h8 => ?_)
  · refine a_nil ?_
    refine tq_n ?_
    refine awp_seq ?_
    refine w_true rfl ?_
    refine awp_skip ?_
    refine tq_n ?_
    refine awp_seq ?_
    refine awp_block ?_
    refine awp_seq ?_
    have hj : j < rows.length := by omega
    refine w_reg (l := r78_12.toList) rfl r78_12_ok ?_
    refine a_op rfl (o_ix te57 tn34 rfl rfl rfl (ixm _ _ _ hj)) ?_
    refine a_op rfl ((by first | exact o_ld tg34 rfl rfl | exact o_ldp tg34 rfl rfl rfl rfl)) ?_
    refine a_op rfl (o_as rfl) ?_
    refine a_nil ?_
    refine tq_n ?_
    refine w_reg (l := r78_13.toList) rfl r78_13_ok ?_
    refine a_op rfl (o_mv rfl) ?_
    refine a_op rfl (o_mv rfl) ?_
    refine a_op rfl (cat_op hj rfl rfl hb) ?_
    refine a_op rfl (o_as rfl) ?_
    refine a_nil ?_
    refine bq_n ?_
    refine tq_n ?_
    refine w_reg (l := r78_14.toList) rfl r78_14_ok ?_
    refine a_op rfl (o_add rfl rfl (by simp only [klo, khi]; omega)) ?_
    refine a_op rfl (o_mv rfl) ?_
    refine a_nil ?_
    refine tq_n ?_
    exact ⟨j + 1, ⟨by omega, by omega⟩, ⟨(by first | exact sub_int rfl (by omega) | rfl | exact sub_int rfl (by simp [sumL_succ, *]) | exact sub_int rfl (by rw [sumL_succ hi]; rfl) | exact sub_int rfl (by simp [sumL])), (by first | exact sub_int rfl (by omega) | rfl | exact sub_int rfl (by simp [sumL_succ, *]) | exact sub_int rfl (by rw [sumL_succ hi]; rfl) | exact sub_int rfl (by simp [sumL])), (by first | exact sub_int rfl (by omega) | rfl | exact sub_int rfl (by simp [sumL_succ, *]) | exact sub_int rfl (by rw [sumL_succ hi]; rfl) | exact sub_int rfl (by simp [sumL])), (by first | exact sub_int rfl (by omega) | rfl | exact sub_int rfl (by simp [sumL_succ, *]) | exact sub_int rfl (by rw [sumL_succ hi]; rfl) | exact sub_int rfl (by simp [sumL])), trivial⟩, rfl⟩
  refine a_nil ?_
  refine tq_n ?_
  refine awp_seq ?_
  refine w_false rfl ?_
  refine awp_exit ?_
  refine tq_x ?_
  refine tq_x ?_
  refine bq_hit ?_
  refine tq_n ?_
  refine awp_seq ?_
  refine w_reg (l := r78_15.toList) rfl r78_15_ok ?_
  refine a_op rfl (o_mv rfl) ?_
  refine a_op rfl (o_as rfl) ?_
  refine a_nil ?_
  refine tq_n ?_
  refine awp_ret ?_
  refine r_one rfl ⟨rfl, trivial⟩ ?_
  have hjl : j = rows.length := by omega
  subst hjl
  exact rs_slo id rfl (by rw [sumL_all, catE_all, List.length_map]) (pu_int _) (catE_all rows).symm
noncomputable def r31_0 : Array Oper := opsAt Try.f31 [0]
theorem r31_0_ok : dstOk 6 r31_0.toList = true ∧ r31_0.toList.all (fun o => noDefer o.op) = true := by decide +kernel
noncomputable def r31_1 : Array Oper := opsAt Try.f31 [1, 0]
theorem r31_1_ok : dstOk 6 r31_1.toList = true ∧ r31_1.toList.all (fun o => noDefer o.op) = true := by decide +kernel
noncomputable def c31 : Code := (.seq (.region 0 r31_0 false) (.seq (.region 1 r31_1 false) .ret))
theorem body31 : Try.f31.body = some c31 := by kernel_rfl
theorem leave_ok (s : MS) (hl : s.rows.length ≤ 100000) (hb : s.rows.flatten.length ≤ 1000000) : PureCall Try.prog GL 31 [passAV s] (rowAV s.rows.flatten) := by
  refine pure_of_body Try.func31 body31 (Nat.le_of_ble_eq_true rfl) (by simp) (by simp) ?_
  refine w_keep [(0, passAV s)] ⟨rfl, trivial⟩ ?_
  unfold c31
  refine awp_seq ?_
  refine w_reg (l := r31_0.toList) rfl r31_0_ok ?_
  refine a_op rfl (o_box (N := 0) rfl (by rfl) rfl rfl) ?_
  refine a_op rfl (o_as rfl) ?_
  refine a_nil ?_
  refine tq_n ?_
  refine awp_seq ?_
  refine w_reg (l := r31_1.toList) rfl r31_1_ok ?_
  refine a_op rfl ((by first | exact o_fa tf60_0 rfl rfl | exact o_fap tf60_0 rfl rfl)) ?_
  refine a_op rfl ((by first | exact o_ld tg57 rfl rfl | exact o_ldp tg57 rfl rfl rfl rfl)) ?_
  refine a_pure rfl rfl rfl cb78 (concat_ok _ _ (by omega) hb) ?_
  refine a_op rfl (o_as rfl) ?_
  refine a_nil ?_
  refine tq_n ?_
  refine awp_ret ?_
  refine r_one rfl ⟨rfl, trivial⟩ ?_
  exact rs_pur (by simp) rfl

def emptyM : MS := ⟨[], [], [], [], [], [], 0⟩
def runF (cs : List Int) (sw : Int) (l : List FeedR) : MS × Int := if rightF cs = true then if sw < 0 ∨ 1000 < sw then (emptyM, 2) else if wrongF cs.length l = 0 then (playF cs sw l, 0) else (emptyM, wrongF cs.length l) else (emptyM, 290)
theorem rs_empty {H : Heap} : Rs H (fun _ => False) (.agg [.raw (.slice none 0 0), .raw (.slice none 0 0), .raw (.slice none 0 0), .raw (.slice none 0 0), .raw (.slice none 0 0)]) (passAV emptyM) :=
  rs_agg ⟨.nil (by decide), .nil (by decide), .nil (by decide), .nil (by decide), .nil (by decide), trivial⟩
theorem rightF_le {cs : List Int} (h : rightF cs = true) : cs.length ≤ 64 := by simp [rightF] at h; omega

noncomputable def r29_0 : Array Oper := opsAt Try.f29 [0]
theorem r29_0_ok : dstOk 31 r29_0.toList = true ∧ r29_0.toList.all (fun o => noDefer o.op) = true := by decide +kernel
noncomputable def r29_1 : Array Oper := opsAt Try.f29 [1, 0, 0]
theorem r29_1_ok : dstOk 31 r29_1.toList = true ∧ r29_1.toList.all (fun o => noDefer o.op) = true := by decide +kernel
noncomputable def r29_2 : Array Oper := opsAt Try.f29 [1, 0, 1, 0, 0]
theorem r29_2_ok : dstOk 31 r29_2.toList = true ∧ r29_2.toList.all (fun o => noDefer o.op) = true := by decide +kernel
noncomputable def r29_3 : Array Oper := opsAt Try.f29 [1, 1, 0, 0]
theorem r29_3_ok : dstOk 31 r29_3.toList = true ∧ r29_3.toList.all (fun o => noDefer o.op) = true := by decide +kernel
noncomputable def r29_4 : Array Oper := opsAt Try.f29 [1, 1, 0, 1, 0, 0]
theorem r29_4_ok : dstOk 31 r29_4.toList = true ∧ r29_4.toList.all (fun o => noDefer o.op) = true := by decide +kernel
noncomputable def r29_5 : Array Oper := opsAt Try.f29 [1, 1, 1, 0, 0]
theorem r29_5_ok : dstOk 31 r29_5.toList = true ∧ r29_5.toList.all (fun o => noDefer o.op) = true := by decide +kernel
noncomputable def r29_6 : Array Oper := opsAt Try.f29 [1, 1, 1, 0, 1, 0]
theorem r29_6_ok : dstOk 31 r29_6.toList = true ∧ r29_6.toList.all (fun o => noDefer o.op) = true := by decide +kernel
noncomputable def r29_7 : Array Oper := opsAt Try.f29 [1, 1, 1, 0, 1, 1, 0, 0]
theorem r29_7_ok : dstOk 31 r29_7.toList = true ∧ r29_7.toList.all (fun o => noDefer o.op) = true := by decide +kernel
noncomputable def r29_8 : Array Oper := opsAt Try.f29 [1, 1, 1, 1, 0]
theorem r29_8_ok : dstOk 31 r29_8.toList = true ∧ r29_8.toList.all (fun o => noDefer o.op) = true := by decide +kernel
noncomputable def c29 : Code := (.seq (.region 0 r29_0 false) (.seq (.seq (.region 1 r29_1 false) (.cond (.tmp 11) (.seq (.region 2 r29_2 false) .ret) .skip)) (.seq (.seq (.region 3 r29_3 false) (.cond (.tmp 18) (.seq (.region 4 r29_4 false) .ret) .skip)) (.seq (.seq (.region 5 r29_5 false) (.seq (.region 6 r29_6 false) (.cond (.tmp 24) (.seq (.region 7 r29_7 false) .ret) .skip))) (.seq (.region 8 r29_8 false) .ret)))))
theorem body29 : Try.f29.body = some c29 := by kernel_rfl
theorem run_ok (b : Fl) (cs : List Int) (hl : cs.length ≤ 4611686018427387904) (sw : Int) (b2 : Fl) (l : List FeedR) (hl2 : l.length ≤ 4611686018427387904) : PureCall Try.prog GL 29 [.sl 1 b (cs.map intAV), .raw (.int .i64 sw), .sl 2 b2 (l.map feedAV)] (.tup [passAV (runF cs sw l).1, .raw (.int .i64 ((runF cs sw l).2))]) := by
  refine pure_of_body Try.func29 body29 (Nat.le_of_ble_eq_true rfl) (by simp) (by simp) ?_
  refine w_keep [(0, .sl 1 b (cs.map intAV)), (1, .raw (.int .i64 sw)), (2, .sl 2 b2 (l.map feedAV))] ⟨rfl, rfl, rfl, trivial⟩ ?_
  unfold c29
  refine awp_seq ?_
  refine w_reg (l := r29_0.toList) rfl r29_0_ok ?_
  refine a_op rfl (o_al (N := 0) tz60 rfl rfl rfl) ?_
  refine a_op rfl (o_as rfl) ?_
  refine a_nil ?_
  refine tq_n ?_
  refine awp_seq ?_
  refine awp_seq ?_
  refine w_reg (l := r29_1.toList) rfl r29_1_ok ?_
  refine a_op rfl (o_mv rfl) ?_
  refine a_pureb rfl rfl rfl cb76 (right_ok _ _ (by omega)) (fun h1 => ?_) (fun h2 => ?_)
  · refine a_op rfl (o_ntt rfl) ?_
    refine a_nil ?_
    refine tq_n ?_
    refine w_false rfl ?_
    refine awp_skip ?_
    refine tq_n ?_
    refine awp_seq ?_
    refine awp_seq ?_
    refine w_reg (l := r29_3.toList) rfl r29_3_ok ?_
    refine a_op rfl (o_mv rfl) ?_
    refine a_if rfl (o_lt rfl rfl) (fun h3 => ?_) (fun h4 => ?_)
    · refine a_op rfl (o_mv rfl) ?_
      refine a_off rfl ?_
      refine a_off rfl ?_
      refine a_op rfl (o_pkt rfl rfl) ?_
      refine a_nil ?_
      refine tq_n ?_
      refine w_true rfl ?_
      refine awp_seq ?_
      refine w_reg (l := r29_4.toList) rfl r29_4_ok ?_
      refine a_op rfl (o_bd tz60 rfl tp60 rfl rfl) ?_
      refine a_op0 rfl (o_st (N := 4) tn60 rfl rfl rfl rfl rfl) ?_
      refine a_op rfl (o_as rfl) ?_
      refine a_nil ?_
      refine tq_n ?_
      refine awp_ret ?_
      refine tq_r ?_
      refine r_tup (xs := []) rfl ⟨c_ag tg60 tn60 rfl rfl, rfl, trivial⟩ ?_
      have hr : runF cs sw l = (emptyM, 2) := by rw [runF, if_pos (by assumption), if_pos (by omega)]
      rw [hr]
      exact rs_tup ⟨rs_empty, .raw _, trivial⟩
    refine a_op rfl (o_mv rfl) ?_
    refine a_op rfl (o_mv rfl) ?_
    refine a_if rfl (o_gt rfl rfl) (fun h5 => ?_) (fun h6 => ?_)
    · refine a_op rfl (o_pkf rfl rfl) ?_
      refine a_nil ?_
      refine tq_n ?_
      refine w_true rfl ?_
      refine awp_seq ?_
      refine w_reg (l := r29_4.toList) rfl r29_4_ok ?_
      refine a_op rfl (o_bd tz60 rfl tp60 rfl rfl) ?_
      refine a_op0 rfl (o_st (N := 4) tn60 rfl rfl rfl rfl rfl) ?_
      refine a_op rfl (o_as rfl) ?_
      refine a_nil ?_
      refine tq_n ?_
      refine awp_ret ?_
      refine tq_r ?_
      refine r_tup (xs := []) rfl ⟨c_ag tg60 tn60 rfl rfl, rfl, trivial⟩ ?_
      have hr : runF cs sw l = (emptyM, 2) := by rw [runF, if_pos (by assumption), if_pos (by omega)]
      rw [hr]
      exact rs_tup ⟨rs_empty, .raw _, trivial⟩
    refine a_op rfl (o_pkf rfl rfl) ?_
    refine a_nil ?_
    refine tq_n ?_
    refine w_false rfl ?_
    refine awp_skip ?_
    refine tq_n ?_
    refine awp_seq ?_
    refine awp_seq ?_
    refine w_reg (l := r29_5.toList) rfl r29_5_ok ?_
    refine a_op rfl (o_mv rfl) ?_
    refine a_op rfl (o_mv rfl) ?_
    refine a_pure rfl rfl rfl cb77 (wrong_ok _ _ (by omega) _ _ (by omega)) ?_
    refine a_op rfl (o_as rfl) ?_
    refine a_nil ?_
    refine tq_n ?_
    refine awp_seq ?_
    refine w_reg (l := r29_6.toList) rfl r29_6_ok ?_
    refine a_op rfl (o_mv rfl) ?_
    refine a_if rfl (o_ne rfl rfl) (fun h7 => ?_) (fun h8 => ?_)
    · refine a_nil ?_
      refine tq_n ?_
      refine w_true rfl ?_
      refine awp_seq ?_
      refine w_reg (l := r29_7.toList) rfl r29_7_ok ?_
      refine a_op rfl (o_bd tz60 rfl tp60 rfl rfl) ?_
      refine a_op rfl (o_mv rfl) ?_
      refine a_op0 rfl (o_st (N := 4) tn60 rfl rfl rfl rfl rfl) ?_
      refine a_op rfl (o_as rfl) ?_
      refine a_nil ?_
      refine tq_n ?_
      refine awp_ret ?_
      refine tq_r ?_
      refine r_tup (xs := []) rfl ⟨c_ag tg60 tn60 rfl rfl, rfl, trivial⟩ ?_
      have hr : runF cs sw l = (emptyM, wrongF cs.length l) := by rw [runF, if_pos (by assumption), if_neg (by omega), if_neg (by assumption)]
      rw [hr]
      exact rs_tup ⟨rs_empty, .raw _, trivial⟩
    refine a_nil ?_
    refine tq_n ?_
    refine w_false rfl ?_
    refine awp_skip ?_
    refine tq_n ?_
    refine awp_seq ?_
    have hrt : cs.length ≤ 64 := rightF_le (by assumption)
    have hw0 : wrongF cs.length l = 0 := by omega
    obtain ⟨hl3, hin, hdf⟩ := wrongF_in hw0
    refine w_reg (l := r29_8.toList) rfl r29_8_ok ?_
    refine a_op rfl (o_mv rfl) ?_
    refine a_op rfl (o_mv rfl) ?_
    refine a_op rfl (o_mv rfl) ?_
    refine a_pure rfl rfl rfl cb75 (play_ok _ _ hrt _ (by omega) (by omega) _ _ hl3 hin) ?_
    refine a_op0 rfl (o_st (N := 4) tn60 rfl rfl rfl rfl rfl) ?_
    refine a_op rfl (o_as rfl) ?_
    refine a_nil ?_
    refine tq_n ?_
    refine awp_ret ?_
    refine r_tup (xs := []) rfl ⟨c_ag tg60 tn60 rfl rfl, rfl, trivial⟩ ?_
    have hr : runF cs sw l = (playF cs sw l, 0) := by rw [runF, if_pos (by assumption), if_neg (by omega), if_pos hw0]
    rw [hr]
    exact rs_tup ⟨rs_pur (by simp) rfl, .raw _, trivial⟩
  refine a_op rfl (o_ntf rfl) ?_
  refine a_nil ?_
  refine tq_n ?_
  refine w_true rfl ?_
  refine awp_seq ?_
  refine w_reg (l := r29_2.toList) rfl r29_2_ok ?_
  refine a_op rfl (o_bd tz60 rfl tp60 rfl rfl) ?_
  refine a_op0 rfl (o_st (N := 4) tn60 rfl rfl rfl rfl rfl) ?_
  refine a_op rfl (o_as rfl) ?_
  refine a_nil ?_
  refine tq_n ?_
  refine awp_ret ?_
  refine tq_r ?_
  refine r_tup (xs := []) rfl ⟨c_ag tg60 tn60 rfl rfl, rfl, trivial⟩ ?_
  have hr : runF cs sw l = (emptyM, 290) := by simp_all [runF]
  rw [hr]
  exact rs_tup ⟨rs_empty, .raw _, trivial⟩
noncomputable def r36_0 : Array Oper := opsAt Try.f36 [0]
theorem r36_0_ok : dstOk 27 r36_0.toList = true ∧ r36_0.toList.all (fun o => noDefer o.op) = true := by decide +kernel
noncomputable def r36_1 : Array Oper := opsAt Try.f36 [1, 0, 0]
theorem r36_1_ok : dstOk 27 r36_1.toList = true ∧ r36_1.toList.all (fun o => noDefer o.op) = true := by decide +kernel
noncomputable def r36_2 : Array Oper := opsAt Try.f36 [1, 0, 1, 0, 0]
theorem r36_2_ok : dstOk 27 r36_2.toList = true ∧ r36_2.toList.all (fun o => noDefer o.op) = true := by decide +kernel
noncomputable def r36_3 : Array Oper := opsAt Try.f36 [1, 1, 0, 0]
theorem r36_3_ok : dstOk 27 r36_3.toList = true ∧ r36_3.toList.all (fun o => noDefer o.op) = true := by decide +kernel
noncomputable def r36_4 : Array Oper := opsAt Try.f36 [1, 1, 0, 1, 0, 0, 0, 0]
theorem r36_4_ok : dstOk 27 r36_4.toList = true ∧ r36_4.toList.all (fun o => noDefer o.op) = true := by decide +kernel
noncomputable def r36_6 : Array Oper := opsAt Try.f36 [1, 1, 0, 1, 0, 0, 1, 0, 0, 0]
theorem r36_6_ok : dstOk 27 r36_6.toList = true ∧ r36_6.toList.all (fun o => noDefer o.op) = true := by decide +kernel
noncomputable def r36_7 : Array Oper := opsAt Try.f36 [1, 1, 0, 1, 0, 0, 1, 0, 0, 1, 0, 0]
theorem r36_7_ok : dstOk 27 r36_7.toList = true ∧ r36_7.toList.all (fun o => noDefer o.op) = true := by decide +kernel
noncomputable def r36_5 : Array Oper := opsAt Try.f36 [1, 1, 0, 1, 0, 0, 1, 1]
theorem r36_5_ok : dstOk 27 r36_5.toList = true ∧ r36_5.toList.all (fun o => noDefer o.op) = true := by decide +kernel
noncomputable def b36_0 : Code := (.seq (.seq (.region 4 r36_4 false) (.cond (.tmp 14) .skip (.exit 0))) (.seq (.block 1 (.seq (.region 6 r36_6 true) (.cond (.tmp 26) (.seq (.region 7 r36_7 false) .ret) .skip))) (.region 5 r36_5 false)))
noncomputable def r36_8 : Array Oper := opsAt Try.f36 [1, 1, 1, 0]
theorem r36_8_ok : dstOk 27 r36_8.toList = true ∧ r36_8.toList.all (fun o => noDefer o.op) = true := by decide +kernel
noncomputable def c36 : Code := (.seq (.region 0 r36_0 false) (.seq (.seq (.region 1 r36_1 false) (.cond (.tmp 10) (.seq (.region 2 r36_2 false) .ret) .skip)) (.seq (.seq (.region 3 r36_3 false) (.block 0 (.loop b36_0))) (.seq (.region 8 r36_8 false) .ret))))
theorem body36 : Try.f36.body = some c36 := by kernel_rfl
theorem lists_ok (b : Fl) (xs : List (List Int)) (hl : xs.length ≤ 4611686018427387904) (b2 : Fl) (ys : List (List Int)) (hl2 : ys.length ≤ 4611686018427387904) (hA : ∀ r ∈ xs, r.length ≤ 4611686018427387904) (hB : ∀ r ∈ ys, r.length ≤ 4611686018427387904) : PureCall Try.prog GL 36 [.sl 1 b (xs.map rowAV), .sl 1 b2 (ys.map rowAV)] (.raw (.bool (decide (xs = ys)))) := by
  refine pure_of_body Try.func36 body36 (Nat.le_of_ble_eq_true rfl) (by simp) (by simp) ?_
  refine w_keep [(0, .sl 1 b (xs.map rowAV)), (1, .sl 1 b2 (ys.map rowAV))] ⟨rfl, rfl, trivial⟩ ?_
  unfold c36
  refine awp_seq ?_
  refine w_reg (l := r36_0.toList) rfl r36_0_ok ?_
  refine a_op rfl (o_as rfl) ?_
  refine a_nil ?_
  refine tq_n ?_
  refine awp_seq ?_
  refine awp_seq ?_
  refine w_reg (l := r36_1.toList) rfl r36_1_ok ?_
  refine a_op rfl (o_mv rfl) ?_
  refine a_op rfl (o_len rfl rfl (by first | exact List.length_map .. | rfl) tl57) ?_
  refine a_op rfl (o_mv rfl) ?_
  refine a_op rfl (o_len rfl rfl (by first | exact List.length_map .. | rfl) tl57) ?_
  refine a_if rfl (o_ne rfl rfl) (fun h1 => ?_) (fun h2 => ?_)
  · refine a_nil ?_
    refine tq_n ?_
    refine w_true rfl ?_
    refine awp_seq ?_
    refine w_reg (l := r36_2.toList) rfl r36_2_ok ?_
    refine a_op rfl (o_as rfl) ?_
    refine a_nil ?_
    refine tq_n ?_
    refine awp_ret ?_
    refine tq_r ?_
    refine r_one rfl ⟨rfl, trivial⟩ ?_
    exact rs_pur (by simp) (by simp; intro h; subst h; omega)
  refine a_nil ?_
  refine tq_n ?_
  refine w_false rfl ?_
  refine awp_skip ?_
  refine tq_n ?_
  refine awp_seq ?_
  refine awp_seq ?_
  have hlen : xs.length = ys.length := by omega
  refine w_reg (l := r36_3.toList) rfl r36_3_ok ?_
  refine a_op rfl (o_as rfl) ?_
  refine a_nil ?_
  refine tq_n ?_
  refine awp_block ?_
  refine w_loop (fun i : Nat => i ≤ xs.length ∧ xs.take i = ys.take i) (fun i => [(0, .sl 1 b (xs.map rowAV)), (1, .sl 1 b2 (ys.map rowAV)), (5, .raw (.int .i64 (i : Int)))]) (fun _ => []) (fun i => xs.length - i) (0) ⟨by simp, by simp⟩ ⟨(by first | exact sub_int rfl (by omega) | rfl), (by first | exact sub_int rfl (by omega) | rfl), (by first | exact sub_int rfl (by omega) | rfl), trivial⟩ rfl ?_
  intro i ⟨hp1, hp2⟩
  unfold b36_0
  refine awp_seq ?_
  refine awp_seq ?_
  refine w_reg (l := r36_4.toList) rfl r36_4_ok ?_
  refine a_op rfl (o_mv rfl) ?_
  refine a_op rfl (o_mv rfl) ?_
  refine a_op rfl (o_len rfl rfl (by first | exact List.length_map .. | rfl) tl57) ?_
  refine a_if rfl (o_lt rfl rfl) (fun h3 => ?_) (fun h4 => ?_)
  · refine a_nil ?_
    refine tq_n ?_
    refine w_true rfl ?_
    refine awp_skip ?_
    refine tq_n ?_
    refine awp_seq ?_
    refine awp_block ?_
    refine awp_seq ?_
    have hb1 : i < xs.length := by omega
    have hb2 : i < ys.length := by omega
    refine awp_draw ⟨[[], [], [0, 1], [0, 1, 2], [], [], [4, 5], [4, 5, 6], [0, 1, 2, 3, 4, 5, 6, 7], [0, 1, 2, 3, 4, 5, 6, 7, 8]], [[0], [5], [17, 18], [19], [1], [5], [21, 22], [23], [20, 24], [25]], [[], [], [], [], [], [], [], [], [], []], [none, none, none, none, none, none, none, none, none, none]⟩ mo r36_6_ok (by decide +kernel) (l := r36_6.toList) rfl ?_
    refine d_op rfl rfl rfl (fun _ => o_mv rfl) ?_
    refine d_op rfl rfl rfl (fun _ => o_mv rfl) ?_
    refine d_op rfl rfl rfl (fun _ => o_ix te57 tn34 rfl rfl rfl (ixm _ _ _ hb1)) ?_
    refine d_op rfl rfl rfl (fun _ => (by first | exact o_ld tg34 rfl rfl | exact o_ldp tg34 rfl rfl rfl rfl)) ?_
    refine d_op rfl rfl rfl (fun _ => o_mv rfl) ?_
    refine d_op rfl rfl rfl (fun _ => o_mv rfl) ?_
    refine d_op rfl rfl rfl (fun _ => o_ix te57 tn34 rfl rfl rfl (ixm _ _ _ hb2)) ?_
    refine d_op rfl rfl rfl (fun _ => (by first | exact o_ld tg34 rfl rfl | exact o_ldp tg34 rfl rfl rfl rfl)) ?_
    refine d_pureb rfl rfl rfl rfl cb37 (sameInts_ok _ _ (hA _ (List.getElem_mem hb1)) _ _ (hB _ (List.getElem_mem hb2))) (fun h5 => ?_) (fun h6 => ?_)
    · refine d_op rfl rfl rfl (fun _ => o_ntt rfl) ?_
      refine d_nil ?_
      refine tq_n ?_
      refine w_false rfl ?_
      refine awp_skip ?_
      refine bq_n ?_
      refine tq_n ?_
      refine w_reg (l := r36_5.toList) rfl r36_5_ok ?_
      refine a_op rfl (o_mv rfl) ?_
      refine a_op rfl (o_add rfl rfl (by simp only [klo, khi]; omega)) ?_
      refine a_op rfl (o_as rfl) ?_
      refine a_nil ?_
      refine tq_n ?_
      exact ⟨i + 1, ⟨⟨by omega, by rw [List.take_succ_eq_append_getElem hb1, List.take_succ_eq_append_getElem hb2, hp2, show xs[i] = ys[i] by simp_all]⟩, by omega⟩, ⟨(by first | exact sub_int rfl (by omega) | rfl), (by first | exact sub_int rfl (by omega) | rfl), (by first | exact sub_int rfl (by omega) | rfl), trivial⟩, rfl⟩
    refine d_op rfl rfl rfl (fun _ => o_ntf rfl) ?_
    refine d_nil ?_
    refine tq_n ?_
    refine w_true rfl ?_
    refine awp_seq ?_
    refine w_reg (l := r36_7.toList) rfl r36_7_ok ?_
    refine a_op rfl (o_as rfl) ?_
    refine a_nil ?_
    refine tq_n ?_
    refine awp_ret ?_
    refine bq_r ?_
    refine tq_r ?_
    refine tq_r ?_
    refine bq_r ?_
    refine tq_r ?_
    refine r_one rfl ⟨rfl, trivial⟩ ?_
    exact rs_pur (by simp) (by simp; intro h; subst h; simp_all)
  refine a_nil ?_
  refine tq_n ?_
  refine w_false rfl ?_
  refine awp_exit ?_
  refine tq_x ?_
  refine tq_x ?_
  refine bq_hit ?_
  refine tq_n ?_
  refine awp_seq ?_
  refine w_reg (l := r36_8.toList) rfl r36_8_ok ?_
  refine a_op rfl (o_as rfl) ?_
  refine a_nil ?_
  refine tq_n ?_
  refine awp_ret ?_
  refine r_one rfl ⟨rfl, trivial⟩ ?_
  exact rs_pur (by simp) (by simp; rw [← List.take_of_length_le (show xs.length ≤ i by omega), hp2, List.take_of_length_le (by omega)])
end Go.Ab.S
