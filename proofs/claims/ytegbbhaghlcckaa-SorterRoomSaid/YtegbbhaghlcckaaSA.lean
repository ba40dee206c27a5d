/- What functions of this program compute, and the laws of what they compute, under the bounds on lengths that each contract states. -/
import Derived.Test.YtegbbhaghlcckaaTabS
import Derived.Test.YtegbbhaghlcckaaGC
import Derived.Test.YtegbbhaghlcckaaGD
import Derived.Shelf.Sort.Plain
import Derived.Ground.Names2Prog
import Derived.Shelf.Slices.CompactI
import Derived.Test.YtegbbhaghlcckaaProg
set_option linter.unusedSimpArgs false
set_option linter.unusedVariables false
namespace Go.Proofs
open Go.Shelf
def Try.lays189_ren : Go.Shelf.Ren := ⟨fun | 189 => 140 | 125 => 153 | 257 => 152 | 128 => 166 | 129 => 167 | 294 => 157 | 295 => 158 | 296 => 159 | 297 => 160 | 298 => 161 | 299 => 162 | 216 => 163 | 300 => 164 | 301 => 165 | 328 => 168 | 329 => 169 | 330 => 170 | 331 => 171 | 332 => 172 | 215 => 173 | 343 => 174 | n => n, fun | 28 => 34 | 3 => 3 | 46 => 296 | 0 => 0 | 51 => 311 | 53 => 313 | 4 => 4 | 183 => 304 | 182 => 303 | 131 => 85 | 5 => 5 | 9 => 9 | 218 => 314 | 222 => 125 | 228 => 319 | 229 => 126 | n => n, fun | n => n⟩
theorem Try.lays189 : Go.Proofs.Lays.n189 Try.prog Try.lays189_ren := {
  mixed := by kernel_rfl
  f125 := Try.func153.trans (congrArg some (by kernel_rfl))
  f128 := Try.func166.trans (congrArg some (by kernel_rfl))
  f129 := Try.func167.trans (congrArg some (by kernel_rfl))
  f189 := Try.func140.trans (congrArg some (by kernel_rfl))
  f215 := Try.func173.trans (congrArg some (by kernel_rfl))
  f216 := Try.func163.trans (congrArg some (by kernel_rfl))
  f257 := Try.func152.trans (congrArg some (by kernel_rfl))
  f294 := Try.func157.trans (congrArg some (by kernel_rfl))
  f295 := Try.func158.trans (congrArg some (by kernel_rfl))
  f296 := Try.func159.trans (congrArg some (by kernel_rfl))
  f297 := Try.func160.trans (congrArg some (by kernel_rfl))
  f298 := Try.func161.trans (congrArg some (by kernel_rfl))
  f299 := Try.func162.trans (congrArg some (by kernel_rfl))
  f300 := Try.func164.trans (congrArg some (by kernel_rfl))
  f301 := Try.func165.trans (congrArg some (by kernel_rfl))
  f328 := Try.func168.trans (congrArg some (by kernel_rfl))
  f329 := Try.func169.trans (congrArg some (by kernel_rfl))
  f330 := Try.func170.trans (congrArg some (by kernel_rfl))
  f331 := Try.func171.trans (congrArg some (by kernel_rfl))
  f332 := Try.func172.trans (congrArg some (by kernel_rfl))
  f343 := Try.func174.trans (congrArg some (by kernel_rfl))
  t0 := Try.underlying0
  a0 := Try.isAgg0
  z0 := Try.sizeOf0
  v0 := Try.zeroValue0
  t3 := Try.underlying3
  a3 := Try.isAgg3
  z3 := Try.sizeOf3
  v3 := Try.zeroValue3
  t4 := Try.underlying4
  a4 := Try.isAgg4
  z4 := Try.sizeOf4
  v4 := Try.zeroValue4
  t5 := Try.underlying5
  a5 := Try.isAgg5
  z5 := Try.sizeOf5
  v5 := Try.zeroValue5
  t9 := Try.underlying9
  a9 := Try.isAgg9
  z9 := Try.sizeOf9
  v9 := Try.zeroValue9
  t28 := Try.underlying34
  a28 := Try.isAgg34
  z28 := Try.sizeOf34
  v28 := Try.zeroValue34
  t46 := Try.underlying296
  a46 := Try.isAgg296
  z46 := Try.sizeOf296
  v46 := Try.zeroValue296
  t51 := Try.underlying311
  a51 := Try.isAgg311
  z51 := Try.sizeOf311
  v51 := Try.zeroValue311
  t53 := Try.underlying313
  a53 := Try.isAgg313
  z53 := Try.sizeOf313
  v53 := Try.zeroValue313
  t131 := Try.underlying85
  a131 := Try.isAgg85
  z131 := Try.sizeOf85
  v131 := Try.zeroValue85
  t182 := Try.underlying303
  a182 := Try.isAgg303
  z182 := Try.sizeOf303
  v182 := Try.zeroValue303
  t183 := Try.underlying304
  a183 := Try.isAgg304
  z183 := Try.sizeOf304
  v183 := Try.zeroValue304
  t218 := Try.underlying314
  a218 := Try.isAgg314
  z218 := Try.sizeOf314
  v218 := Try.zeroValue314
  t222 := Try.underlying125
  a222 := Try.isAgg125
  z222 := Try.sizeOf125
  v222 := Try.zeroValue125
  t228 := Try.underlying319
  a228 := Try.isAgg319
  z228 := Try.sizeOf319
  v228 := Try.zeroValue319
  t229 := Try.underlying126
  a229 := Try.isAgg126
  z229 := Try.sizeOf126
  v229 := Try.zeroValue126 }
def Try.laysNm220_ren : Go.Shelf.Ren := ⟨fun | 20 => 113 | n => n, fun | 22 => 34 | 3 => 3 | 4 => 4 | 0 => 0 | n => n, fun | n => n⟩
theorem Try.laysNm220 : Go.Proofs.Lays2.n20 Try.prog Try.laysNm220_ren := {
  mixed := by kernel_rfl
  f20 := Try.func113.trans (congrArg some (by kernel_rfl))
  t0 := Try.underlying0
  a0 := Try.isAgg0
  z0 := Try.sizeOf0
  v0 := Try.zeroValue0
  t3 := Try.underlying3
  a3 := Try.isAgg3
  z3 := Try.sizeOf3
  v3 := Try.zeroValue3
  t4 := Try.underlying4
  a4 := Try.isAgg4
  z4 := Try.sizeOf4
  v4 := Try.zeroValue4
  t22 := Try.underlying34
  a22 := Try.isAgg34
  z22 := Try.sizeOf34
  v22 := Try.zeroValue34
  i3 := by kernel_rfl }
end Go.Proofs
namespace Go.Ab.S
open Go Go.Ab Go.Proofs
def GL : List (Nat × List Value) := []
def intAV (n : Int) : AV := .raw (.int .i64 n)
def u8AV (n : Int) : AV := .raw (.int .u8 n)
@[simp] theorem pur_int (n : Int) : Pur (intAV n) ↔ True := by simp [intAV]
@[simp] theorem pur_u8 (n : Int) : Pur (u8AV n) ↔ True := by simp [u8AV]
theorem pu_int (l : List Int) : ∀ x ∈ l.map intAV, Pur x := by simp
def u8r (x : Int) : Prop := 0 ≤ x ∧ x ≤ 255
structure FeedR where
  item : Int
  stk : Int
def feedAV (x : FeedR) : AV := .agg [.raw (.int .i64 x.item), .raw (.int .i64 x.stk)]
@[simp] theorem pur_feed (x : FeedR) : Pur (feedAV x) ↔ True := by simp [feedAV]
theorem pu_feed (l : List FeedR) : ∀ x ∈ l.map feedAV, Pur x := by simp
def badC (c : Int) : Bool := decide (c < 1 ∨ c > 100000)
def fix (p : Int → Bool) : List Int → Int → Int
  | [], _ => -1
  | x :: t, i => if p x = true then i else fix p t (i + 1)
theorem fix_drop {p : Int → Bool} {xs : List Int} {i : Nat} (h : i < xs.length) (hn : p xs[i] = false) : fix p (xs.drop i) i = fix p (xs.drop (i + 1)) (i + 1 : Nat) := by
  rw [List.drop_eq_getElem_cons h]; simp [fix, hn]
theorem fix_hit {p : Int → Bool} {xs : List Int} {i : Nat} (h : i < xs.length) (hn : p xs[i] = true) : fix p (xs.drop i) i = i := by
  rw [List.drop_eq_getElem_cons h]; simp [fix, hn]
theorem fix_any (p : Int → Bool) : ∀ (xs : List Int) (i : Int), 0 ≤ i → (fix p xs i ≥ 0 ↔ xs.any p = true)
  | [], i, _ => by simp [fix]
  | x :: t, i, h => by
    simp only [fix, List.any_cons, Bool.or_eq_true]
    by_cases hx : p x = true
    · rw [if_pos hx]; simp [hx]; exact h
    · rw [if_neg hx, fix_any p t (i + 1) (by omega)]; simp [hx]
theorem fix_bd (p : Int → Bool) : ∀ (xs : List Int) (i : Int), -1 ≤ i → -1 ≤ fix p xs i
  | [], i, _ => by simp [fix]
  | x :: t, i, h => by
    simp only [fix]; split
    · exact h
    · exact fix_bd p t (i + 1) (by omega)
def rightF (caps : List Int) : Bool := decide (0 < caps.length ∧ caps.length ≤ 64) && !caps.any badC

noncomputable def r115_0 : Array Oper := opsAt Try.f115 [0]
theorem r115_0_ok : dstOk 9 r115_0.toList = true ∧ r115_0.toList.all (fun o => noDefer o.op) = true := by decide +kernel
noncomputable def r115_1 : Array Oper := opsAt Try.f115 [1, 0]
theorem r115_1_ok : dstOk 9 r115_1.toList = true ∧ r115_1.toList.all (fun o => noDefer o.op) = true := by decide +kernel
noncomputable def c115 : Code := (.seq (.region 0 r115_0 false) (.seq (.region 1 r115_1 false) .ret))
theorem body115 : Try.f115.body = some c115 := by kernel_rfl
theorem badC_ok (c : Int) : PureCall Try.prog GL 115 [.raw (.int .i64 c)] (.raw (.bool (badC c))) := by
  refine pure_of_body Try.func115 body115 (Nat.le_of_ble_eq_true rfl) (by simp) (by simp) ?_
  refine w_keep [(0, .raw (.int .i64 c))] ⟨rfl, trivial⟩ ?_
  unfold c115
  refine awp_seq ?_
  refine w_reg (l := r115_0.toList) rfl r115_0_ok ?_
  refine a_op rfl (o_as rfl) ?_
  refine a_nil ?_
  refine tq_n ?_
  refine awp_seq ?_
  refine w_reg (l := r115_1.toList) rfl r115_1_ok ?_
  refine a_op rfl (o_mv rfl) ?_
  refine a_if rfl (o_lt rfl rfl) (fun h1 => ?_) (fun h2 => ?_)
  · refine a_op rfl (o_mv rfl) ?_
    refine a_off rfl ?_
    refine a_off rfl ?_
    refine a_op rfl (o_pkt rfl rfl) ?_
    refine a_op rfl (o_as rfl) ?_
    refine a_nil ?_
    refine tq_n ?_
    refine awp_ret ?_
    refine r_one rfl ⟨rfl, trivial⟩ ?_
    exact rs_pur (by simp) (by simp [badC, *] <;> omega)
  refine a_op rfl (o_mv rfl) ?_
  refine a_op rfl (o_mv rfl) ?_
  refine a_op rfl (o_gt rfl rfl) ?_
  refine a_op rfl (o_pkf rfl rfl) ?_
  refine a_op rfl (o_as rfl) ?_
  refine a_nil ?_
  refine tq_n ?_
  refine awp_ret ?_
  refine r_one rfl ⟨rfl, trivial⟩ ?_
  exact rs_pur (by simp) (by simp [badC, *] <;> omega)
noncomputable def r138_0 : Array Oper := opsAt Try.f138 [0]
theorem r138_0_ok : dstOk 19 r138_0.toList = true ∧ r138_0.toList.all (fun o => noDefer o.op) = true := by decide +kernel
noncomputable def r138_1 : Array Oper := opsAt Try.f138 [1, 0, 0]
theorem r138_1_ok : dstOk 19 r138_1.toList = true ∧ r138_1.toList.all (fun o => noDefer o.op) = true := by decide +kernel
noncomputable def r138_2 : Array Oper := opsAt Try.f138 [1, 0, 1, 0, 0, 0]
theorem r138_2_ok : dstOk 19 r138_2.toList = true ∧ r138_2.toList.all (fun o => noDefer o.op) = true := by decide +kernel
noncomputable def r138_3 : Array Oper := opsAt Try.f138 [1, 0, 1, 0, 0, 1, 1, 0, 0, 0]
theorem r138_3_ok : dstOk 19 r138_3.toList = true ∧ r138_3.toList.all (fun o => noDefer o.op) = true := by decide +kernel
noncomputable def r138_4 : Array Oper := opsAt Try.f138 [1, 0, 1, 0, 0, 1, 1, 0, 0, 1, 0]
theorem r138_4_ok : dstOk 19 r138_4.toList = true ∧ r138_4.toList.all (fun o => noDefer o.op) = true := by decide +kernel
noncomputable def r138_5 : Array Oper := opsAt Try.f138 [1, 0, 1, 0, 0, 1, 1, 0, 0, 1, 1, 0, 0]
theorem r138_5_ok : dstOk 19 r138_5.toList = true ∧ r138_5.toList.all (fun o => noDefer o.op) = true := by decide +kernel
noncomputable def r138_6 : Array Oper := opsAt Try.f138 [1, 0, 1, 0, 0, 1, 1, 1]
theorem r138_6_ok : dstOk 19 r138_6.toList = true ∧ r138_6.toList.all (fun o => noDefer o.op) = true := by decide +kernel
noncomputable def b138_0 : Code := (.seq (.region 2 r138_2 false) (.seq (.cond (.tmp 9) .skip (.exit 0)) (.seq (.block 1 (.seq (.region 3 r138_3 false) (.seq (.region 4 r138_4 false) (.cond (.tmp 16) (.seq (.region 5 r138_5 false) .ret) .skip)))) (.region 6 r138_6 false))))
noncomputable def r138_7 : Array Oper := opsAt Try.f138 [1, 1, 0]
theorem r138_7_ok : dstOk 19 r138_7.toList = true ∧ r138_7.toList.all (fun o => noDefer o.op) = true := by decide +kernel
noncomputable def c138 : Code := (.seq (.region 0 r138_0 false) (.seq (.seq (.region 1 r138_1 false) (.block 0 (.loop b138_0))) (.seq (.region 7 r138_7 false) .ret)))
theorem body138 : Try.f138.body = some c138 := by kernel_rfl
theorem indexFunc_ok (b : Fl) (xs : List Int) (hl : xs.length ≤ 4611686018427387904) (g : FuncId) (caps : List AV) (hcaps : ∀ x ∈ caps, Pur x) (hc : callable Try.prog g = true) (p : Int → Bool) (hm : ∀ x ∈ xs, PureCall Try.prog GL g (intAV x :: caps) (.raw (.bool (p x)))) : PureCall Try.prog GL 138 [.sl 1 b (xs.map intAV), .fn g [] caps] (.raw (.int .i64 (fix p xs 0))) := by
  refine pure_of_body Try.func138 body138 (Nat.le_of_ble_eq_true rfl) ((by intro x hx; simp only [List.mem_cons, List.not_mem_nil, or_false] at hx; rcases hx with rfl | rfl; exact .sl (pu_int _); exact .fn (by simp) hcaps)) (by simp) ?_
  refine w_keep [(0, .sl 1 b (xs.map intAV)), (1, .fn g [] caps)] ⟨rfl, rfl, trivial⟩ ?_
  unfold c138
  refine awp_seq ?_
  refine w_reg (l := r138_0.toList) rfl r138_0_ok ?_
  refine a_op rfl (o_as rfl) ?_
  refine a_nil ?_
  refine tq_n ?_
  refine awp_seq ?_
  refine awp_seq ?_
  refine w_reg (l := r138_1.toList) rfl r138_1_ok ?_
  refine a_op rfl (o_mv rfl) ?_
  refine a_op rfl (o_len rfl rfl (by first | exact List.length_map .. | rfl) tl34) ?_
  refine a_op rfl (o_mv rfl) ?_
  refine a_nil ?_
  refine tq_n ?_
  refine awp_block ?_
  refine w_loop (fun i : Nat => i ≤ xs.length ∧ fix p xs 0 = fix p (xs.drop i) i) (fun i => [(0, .sl 1 b (xs.map intAV)), (1, .fn g [] caps), (7, .raw (.int .i64 (xs.length : Int))), (8, .raw (.int .i64 (i : Int)))]) (fun _ => []) (fun i => xs.length - i) (0) ⟨by simp, by simp⟩ ⟨(by first | exact sub_int rfl (by omega) | rfl), (by first | exact sub_int rfl (by omega) | rfl), (by first | exact sub_int rfl (by omega) | rfl), (by first | exact sub_int rfl (by omega) | rfl), trivial⟩ rfl ?_
  intro i ⟨hp1, hp2⟩
  unfold b138_0
  refine awp_seq ?_
  refine w_reg (l := r138_2.toList) rfl r138_2_ok ?_
  refine a_if rfl (o_lt rfl rfl) (fun h1 => ?_) (fun h2 => ?_)
  · refine a_nil ?_
    refine tq_n ?_
    refine awp_seq ?_
    refine w_true rfl ?_
    refine awp_skip ?_
    refine tq_n ?_
    refine awp_seq ?_
    refine awp_block ?_
    refine awp_seq ?_
    have hi : i < xs.length := by omega
    refine w_reg (l := r138_3.toList) rfl r138_3_ok ?_
    refine a_op rfl (o_mv rfl) ?_
    refine a_op rfl (o_as rfl) ?_
    refine a_nil ?_
    refine tq_n ?_
    refine awp_seq ?_
    refine w_reg (l := r138_4.toList) rfl r138_4_ok ?_
    refine a_op rfl (o_mv rfl) ?_
    refine a_op rfl (o_mv rfl) ?_
    refine a_op rfl (o_mv rfl) ?_
    refine a_op rfl (o_ix te34 tn3 rfl rfl rfl (ixm _ _ _ hi)) ?_
    refine a_op rfl ((by first | exact o_ld tg3 rfl rfl | exact o_ldp tg3 rfl rfl rfl rfl)) ?_
    refine a_pureb rfl rfl rfl hc (hm _ (List.getElem_mem hi)) (fun h3 => ?_) (fun h4 => ?_)
    · refine a_nil ?_
      refine tq_n ?_
      refine w_true rfl ?_
      refine awp_seq ?_
      refine w_reg (l := r138_5.toList) rfl r138_5_ok ?_
      refine a_op rfl (o_mv rfl) ?_
      refine a_op rfl (o_as rfl) ?_
      refine a_nil ?_
      refine tq_n ?_
      refine awp_ret ?_
      refine bq_r ?_
      refine tq_r ?_
      refine tq_r ?_
      refine bq_r ?_
      refine tq_r ?_
      refine r_one rfl ⟨rfl, trivial⟩ ?_
      exact rs_int (by rw [hp2, fix_hit hi (by assumption)])
    refine a_nil ?_
    refine tq_n ?_
    refine w_false rfl ?_
    refine awp_skip ?_
    refine bq_n ?_
    refine tq_n ?_
    refine w_reg (l := r138_6.toList) rfl r138_6_ok ?_
    refine a_op rfl (o_add rfl rfl (by simp only [klo, khi]; omega)) ?_
    refine a_op rfl (o_mv rfl) ?_
    refine a_nil ?_
    refine tq_n ?_
    exact ⟨i + 1, ⟨⟨by omega, hp2.trans (fix_drop hi (by assumption))⟩, by omega⟩, ⟨(by first | exact sub_int rfl (by omega) | rfl), (by first | exact sub_int rfl (by omega) | rfl), (by first | exact sub_int rfl (by omega) | rfl), (by first | exact sub_int rfl (by omega) | rfl), trivial⟩, rfl⟩
  refine a_nil ?_
  refine tq_n ?_
  refine awp_seq ?_
  refine w_false rfl ?_
  refine awp_exit ?_
  refine tq_x ?_
  refine tq_x ?_
  refine bq_hit ?_
  refine tq_n ?_
  refine awp_seq ?_
  refine w_reg (l := r138_7.toList) rfl r138_7_ok ?_
  refine a_op rfl (o_as rfl) ?_
  refine a_nil ?_
  refine tq_n ?_
  refine awp_ret ?_
  refine r_one rfl ⟨rfl, trivial⟩ ?_
  exact rs_int (by rw [hp2, List.drop_of_length_le (by omega)]; rfl)
noncomputable def r108_0 : Array Oper := opsAt Try.f108 [0]
theorem r108_0_ok : dstOk 9 r108_0.toList = true ∧ r108_0.toList.all (fun o => noDefer o.op) = true := by decide +kernel
noncomputable def r108_1 : Array Oper := opsAt Try.f108 [1, 0]
theorem r108_1_ok : dstOk 9 r108_1.toList = true ∧ r108_1.toList.all (fun o => noDefer o.op) = true := by decide +kernel
noncomputable def c108 : Code := (.seq (.region 0 r108_0 false) (.seq (.region 1 r108_1 false) .ret))
theorem body108 : Try.f108.body = some c108 := by kernel_rfl
theorem containsFunc_ok (b : Fl) (xs : List Int) (hl : xs.length ≤ 4611686018427387904) (g : FuncId) (caps : List AV) (hcaps : ∀ x ∈ caps, Pur x) (hc : callable Try.prog g = true) (p : Int → Bool) (hm : ∀ x ∈ xs, PureCall Try.prog GL g (intAV x :: caps) (.raw (.bool (p x)))) : PureCall Try.prog GL 108 [.sl 1 b (xs.map intAV), .fn g [] caps] (.raw (.bool (xs.any p))) := by
  refine pure_of_body Try.func108 body108 (Nat.le_of_ble_eq_true rfl) ((by intro x hx; simp only [List.mem_cons, List.not_mem_nil, or_false] at hx; rcases hx with rfl | rfl; exact .sl (pu_int _); exact .fn (by simp) hcaps)) (by simp) ?_
  refine w_keep [(0, .sl 1 b (xs.map intAV)), (1, .fn g [] caps)] ⟨rfl, rfl, trivial⟩ ?_
  unfold c108
  have hfa := fix_any p xs 0 (by omega)
  refine awp_seq ?_
  refine w_reg (l := r108_0.toList) rfl r108_0_ok ?_
  refine a_op rfl (o_as rfl) ?_
  refine a_nil ?_
  refine tq_n ?_
  refine awp_seq ?_
  refine w_reg (l := r108_1.toList) rfl r108_1_ok ?_
  refine a_op rfl (o_mv rfl) ?_
  refine a_op rfl (o_mv rfl) ?_
  refine a_pure rfl rfl rfl cb138 (indexFunc_ok _ _ (by omega) _ _ hcaps hc _ hm) ?_
  refine a_op rfl (o_ge rfl rfl) ?_
  refine a_op rfl (o_as rfl) ?_
  refine a_nil ?_
  refine tq_n ?_
  refine awp_ret ?_
  refine r_one rfl ⟨rfl, trivial⟩ ?_
  exact rs_pur (by simp) (by rw [show decide (fix p xs 0 ≥ 0) = xs.any p from by rw [Bool.eq_iff_iff, decide_eq_true_eq]; exact hfa])
noncomputable def r76_0 : Array Oper := opsAt Try.f76 [0]
theorem r76_0_ok : dstOk 16 r76_0.toList = true ∧ r76_0.toList.all (fun o => noDefer o.op) = true := by decide +kernel
noncomputable def r76_1 : Array Oper := opsAt Try.f76 [1, 0]
theorem r76_1_ok : dstOk 16 r76_1.toList = true ∧ r76_1.toList.all (fun o => noDefer o.op) = true := by decide +kernel
noncomputable def c76 : Code := (.seq (.region 0 r76_0 false) (.seq (.region 1 r76_1 false) .ret))
theorem body76 : Try.f76.body = some c76 := by kernel_rfl
theorem right_ok (b : Fl) (xs : List Int) (hl : xs.length ≤ 4611686018427387904) : PureCall Try.prog GL 76 [.sl 1 b (xs.map intAV)] (.raw (.bool (rightF xs))) := by
  refine pure_of_body Try.func76 body76 (Nat.le_of_ble_eq_true rfl) (by simp) (by simp) ?_
  refine w_keep [(0, .sl 1 b (xs.map intAV))] ⟨rfl, trivial⟩ ?_
  unfold c76
  refine awp_seq ?_
  refine w_reg (l := r76_0.toList) rfl r76_0_ok ?_
  refine a_op rfl (o_as rfl) ?_
  refine a_nil ?_
  refine tq_n ?_
  refine awp_seq ?_
  refine w_reg (l := r76_1.toList) rfl r76_1_ok ?_
  refine a_op rfl (o_mv rfl) ?_
  refine a_op rfl (o_len rfl rfl (by first | exact List.length_map .. | rfl) tl34) ?_
  refine a_if rfl (o_gt rfl rfl) (fun h1 => ?_) (fun h2 => ?_)
  · refine a_op rfl (o_mv rfl) ?_
    refine a_op rfl (o_mv rfl) ?_
    refine a_op rfl (o_len rfl rfl (by first | exact List.length_map .. | rfl) tl34) ?_
    refine a_if rfl (o_le rfl rfl) (fun h3 => ?_) (fun h4 => ?_)
    · refine a_op rfl (o_pkt rfl rfl) ?_
      refine a_op rfl (o_mv rfl) ?_
      refine a_op rfl (o_mv rfl) ?_
      refine a_pure rfl rfl rfl cb108 (containsFunc_ok _ _ (by omega) 115 [] (by simp) cb115 badC (fun x _ => badC_ok x)) ?_
      refine a_op rfl (o_nt rfl) ?_
      refine a_op rfl (o_pkt rfl rfl) ?_
      refine a_op rfl (o_as rfl) ?_
      refine a_nil ?_
      refine tq_n ?_
      refine awp_ret ?_
      refine r_one rfl ⟨rfl, trivial⟩ ?_
      exact rs_pur (by simp) (by simp [rightF, *] <;> omega)
    refine a_op rfl (o_pkt rfl rfl) ?_
    refine a_op rfl (o_mv rfl) ?_
    refine a_off rfl ?_
    refine a_off rfl ?_
    refine a_off rfl ?_
    refine a_op rfl (o_pkf rfl rfl) ?_
    refine a_op rfl (o_as rfl) ?_
    refine a_nil ?_
    refine tq_n ?_
    refine awp_ret ?_
    refine r_one rfl ⟨rfl, trivial⟩ ?_
    exact rs_pur (by simp) (by simp [rightF, *] <;> omega)
  refine a_op rfl (o_mv rfl) ?_
  refine a_off rfl ?_
  refine a_off rfl ?_
  refine a_off rfl ?_
  refine a_op rfl (o_pkf rfl rfl) ?_
  refine a_op rfl (o_mv rfl) ?_
  refine a_off rfl ?_
  refine a_off rfl ?_
  refine a_off rfl ?_
  refine a_op rfl (o_pkf rfl rfl) ?_
  refine a_op rfl (o_as rfl) ?_
  refine a_nil ?_
  refine tq_n ?_
  refine awp_ret ?_
  refine r_one rfl ⟨rfl, trivial⟩ ?_
  exact rs_pur (by simp) (by simp [rightF, *] <;> omega)
noncomputable def r37_0 : Array Oper := opsAt Try.f37 [0]
theorem r37_0_ok : dstOk 26 r37_0.toList = true ∧ r37_0.toList.all (fun o => noDefer o.op) = true := by decide +kernel
noncomputable def r37_1 : Array Oper := opsAt Try.f37 [1, 0, 0]
theorem r37_1_ok : dstOk 26 r37_1.toList = true ∧ r37_1.toList.all (fun o => noDefer o.op) = true := by decide +kernel
noncomputable def r37_2 : Array Oper := opsAt Try.f37 [1, 0, 1, 0, 0]
theorem r37_2_ok : dstOk 26 r37_2.toList = true ∧ r37_2.toList.all (fun o => noDefer o.op) = true := by decide +kernel
noncomputable def r37_3 : Array Oper := opsAt Try.f37 [1, 1, 0, 0]
theorem r37_3_ok : dstOk 26 r37_3.toList = true ∧ r37_3.toList.all (fun o => noDefer o.op) = true := by decide +kernel
noncomputable def r37_4 : Array Oper := opsAt Try.f37 [1, 1, 0, 1, 0, 0, 0, 0]
theorem r37_4_ok : dstOk 26 r37_4.toList = true ∧ r37_4.toList.all (fun o => noDefer o.op) = true := by decide +kernel
noncomputable def r37_6 : Array Oper := opsAt Try.f37 [1, 1, 0, 1, 0, 0, 1, 0, 0, 0]
theorem r37_6_ok : dstOk 26 r37_6.toList = true ∧ r37_6.toList.all (fun o => noDefer o.op) = true := by decide +kernel
noncomputable def r37_7 : Array Oper := opsAt Try.f37 [1, 1, 0, 1, 0, 0, 1, 0, 0, 1, 0, 0]
theorem r37_7_ok : dstOk 26 r37_7.toList = true ∧ r37_7.toList.all (fun o => noDefer o.op) = true := by decide +kernel
noncomputable def r37_5 : Array Oper := opsAt Try.f37 [1, 1, 0, 1, 0, 0, 1, 1]
theorem r37_5_ok : dstOk 26 r37_5.toList = true ∧ r37_5.toList.all (fun o => noDefer o.op) = true := by decide +kernel
noncomputable def b37_0 : Code := (.seq (.seq (.region 4 r37_4 false) (.cond (.tmp 14) .skip (.exit 0))) (.seq (.block 1 (.seq (.region 6 r37_6 true) (.cond (.tmp 25) (.seq (.region 7 r37_7 false) .ret) .skip))) (.region 5 r37_5 false)))
noncomputable def r37_8 : Array Oper := opsAt Try.f37 [1, 1, 1, 0]
theorem r37_8_ok : dstOk 26 r37_8.toList = true ∧ r37_8.toList.all (fun o => noDefer o.op) = true := by decide +kernel
noncomputable def c37 : Code := (.seq (.region 0 r37_0 false) (.seq (.seq (.region 1 r37_1 false) (.cond (.tmp 10) (.seq (.region 2 r37_2 false) .ret) .skip)) (.seq (.seq (.region 3 r37_3 false) (.block 0 (.loop b37_0))) (.seq (.region 8 r37_8 false) .ret))))
theorem body37 : Try.f37.body = some c37 := by kernel_rfl
theorem sameInts_ok (b : Fl) (xs : List Int) (hl : xs.length ≤ 4611686018427387904) (b2 : Fl) (ys : List Int) (hl2 : ys.length ≤ 4611686018427387904) : PureCall Try.prog GL 37 [.sl 1 b (xs.map intAV), .sl 1 b2 (ys.map intAV)] (.raw (.bool (decide (xs = ys)))) := by
  refine pure_of_body Try.func37 body37 (Nat.le_of_ble_eq_true rfl) (by simp) (by simp) ?_
  refine w_keep [(0, .sl 1 b (xs.map intAV)), (1, .sl 1 b2 (ys.map intAV))] ⟨rfl, rfl, trivial⟩ ?_
  unfold c37
  refine awp_seq ?_
  refine w_reg (l := r37_0.toList) rfl r37_0_ok ?_
  refine a_op rfl (o_as rfl) ?_
  refine a_nil ?_
  refine tq_n ?_
  refine awp_seq ?_
  refine awp_seq ?_
  refine w_reg (l := r37_1.toList) rfl r37_1_ok ?_
  refine a_op rfl (o_mv rfl) ?_
  refine a_op rfl (o_len rfl rfl (by first | exact List.length_map .. | rfl) tl34) ?_
  refine a_op rfl (o_mv rfl) ?_
  refine a_op rfl (o_len rfl rfl (by first | exact List.length_map .. | rfl) tl34) ?_
  refine a_if rfl (o_ne rfl rfl) (fun h1 => ?_) (fun h2 => ?_)
  · refine a_nil ?_
    refine tq_n ?_
    refine w_true rfl ?_
    refine awp_seq ?_
    refine w_reg (l := r37_2.toList) rfl r37_2_ok ?_
    refine a_op rfl (o_as rfl) ?_
    refine a_nil ?_
    refine tq_n ?_
    refine awp_ret ?_
    refine tq_r ?_
    refine r_one rfl ⟨rfl, trivial⟩ ?_
    exact rs_pur (by simp) (by simp; intro h; subst h; omega)
  refine a_nil ?_
  refine tq_n ?_
  refine w_false rfl ?_
  refine awp_skip ?_
  refine tq_n ?_
  refine awp_seq ?_
  refine awp_seq ?_
  have hlen : xs.length = ys.length := by omega
  refine w_reg (l := r37_3.toList) rfl r37_3_ok ?_
  refine a_op rfl (o_as rfl) ?_
  refine a_nil ?_
  refine tq_n ?_
  refine awp_block ?_
  refine w_loop (fun i : Nat => i ≤ xs.length ∧ xs.take i = ys.take i) (fun i => [(0, .sl 1 b (xs.map intAV)), (1, .sl 1 b2 (ys.map intAV)), (5, .raw (.int .i64 (i : Int)))]) (fun _ => []) (fun i => xs.length - i) (0) ⟨by simp, by simp⟩ ⟨(by first | exact sub_int rfl (by omega) | rfl), (by first | exact sub_int rfl (by omega) | rfl), (by first | exact sub_int rfl (by omega) | rfl), trivial⟩ rfl ?_
  intro i ⟨hp1, hp2⟩
  unfold b37_0
  refine awp_seq ?_
  refine awp_seq ?_
  refine w_reg (l := r37_4.toList) rfl r37_4_ok ?_
  refine a_op rfl (o_mv rfl) ?_
  refine a_op rfl (o_mv rfl) ?_
  refine a_op rfl (o_len rfl rfl (by first | exact List.length_map .. | rfl) tl34) ?_
  refine a_if rfl (o_lt rfl rfl) (fun h3 => ?_) (fun h4 => ?_)
  · refine a_nil ?_
    refine tq_n ?_
    refine w_true rfl ?_
    refine awp_skip ?_
    refine tq_n ?_
    refine awp_seq ?_
    refine awp_block ?_
    refine awp_seq ?_
    have hb1 : i < xs.length := by omega
    have hb2 : i < ys.length := by omega
    refine awp_draw ⟨[[], [], [0, 1], [0, 1, 2], [], [], [4, 5], [4, 5, 6], [0, 1, 2, 3, 4, 5, 6, 7]], [[0], [5], [17, 18], [19], [1], [5], [21, 22], [23], [20, 24]], [[], [], [], [], [], [], [], [], []], [none, none, none, none, none, none, none, none, none]⟩ mo r37_6_ok (by decide +kernel) (l := r37_6.toList) rfl ?_
    refine d_op rfl rfl rfl (fun _ => o_mv rfl) ?_
    refine d_op rfl rfl rfl (fun _ => o_mv rfl) ?_
    refine d_op rfl rfl rfl (fun _ => o_ix te34 tn3 rfl rfl rfl (ixm _ _ _ hb1)) ?_
    refine d_op rfl rfl rfl (fun _ => (by first | exact o_ld tg3 rfl rfl | exact o_ldp tg3 rfl rfl rfl rfl)) ?_
    refine d_op rfl rfl rfl (fun _ => o_mv rfl) ?_
    refine d_op rfl rfl rfl (fun _ => o_mv rfl) ?_
    refine d_op rfl rfl rfl (fun _ => o_ix te34 tn3 rfl rfl rfl (ixm _ _ _ hb2)) ?_
    refine d_op rfl rfl rfl (fun _ => (by first | exact o_ld tg3 rfl rfl | exact o_ldp tg3 rfl rfl rfl rfl)) ?_
    refine d_if rfl rfl rfl (fun _ => o_ne rfl rfl) (fun h5 => ?_) (fun h6 => ?_)
    · refine d_nil ?_
      refine tq_n ?_
      refine w_true rfl ?_
      refine awp_seq ?_
      refine w_reg (l := r37_7.toList) rfl r37_7_ok ?_
      refine a_op rfl (o_as rfl) ?_
      refine a_nil ?_
      refine tq_n ?_
      refine awp_ret ?_
      refine bq_r ?_
      refine tq_r ?_
      refine tq_r ?_
      refine bq_r ?_
      refine tq_r ?_
      refine r_one rfl ⟨rfl, trivial⟩ ?_
      exact rs_pur (by simp) (by simp; intro h; subst h; simp_all)
    refine d_nil ?_
    refine tq_n ?_
    refine w_false rfl ?_
    refine awp_skip ?_
    refine bq_n ?_
    refine tq_n ?_
    refine w_reg (l := r37_5.toList) rfl r37_5_ok ?_
    refine a_op rfl (o_mv rfl) ?_
    refine a_op rfl (o_add rfl rfl (by simp only [klo, khi]; omega)) ?_
    refine a_op rfl (o_as rfl) ?_
    refine a_nil ?_
    refine tq_n ?_
    exact ⟨i + 1, ⟨⟨by omega, by rw [List.take_succ_eq_append_getElem hb1, List.take_succ_eq_append_getElem hb2, hp2, show xs[i] = ys[i] by omega]⟩, by omega⟩, ⟨(by first | exact sub_int rfl (by omega) | rfl), (by first | exact sub_int rfl (by omega) | rfl), (by first | exact sub_int rfl (by omega) | rfl), trivial⟩, rfl⟩
  refine a_nil ?_
  refine tq_n ?_
  refine w_false rfl ?_
  refine awp_exit ?_
  refine tq_x ?_
  refine tq_x ?_
  refine bq_hit ?_
  refine tq_n ?_
  refine awp_seq ?_
  refine w_reg (l := r37_8.toList) rfl r37_8_ok ?_
  refine a_op rfl (o_as rfl) ?_
  refine a_nil ?_
  refine tq_n ?_
  refine awp_ret ?_
  refine r_one rfl ⟨rfl, trivial⟩ ?_
  exact rs_pur (by simp) (by simp; rw [← List.take_of_length_le (show xs.length ≤ i by omega), hp2, List.take_of_length_le (by omega)])

def rowAV (l : List Int) : AV := .sl 1 false (l.map intAV)
@[simp] theorem pur_row (l : List Int) : Pur (rowAV l) ↔ True := by simp [rowAV]
theorem pu_row (l : List (List Int)) : ∀ x ∈ l.map rowAV, Pur x := by simp
def machL (l : List Int) : List Int := (l.take 12).map fun x => 1 + x % 16
def machF (l : List Int) : List Int := if machL l = [] then [3] else machL l
def fedG (n : Nat) : Nat → List Int → List FeedR
  | _, [] => []
  | i, x :: t => ⟨1 + (37 * (i : Int)) % 151, x % ((n : Int) + 1) - 1⟩ :: fedG n (i + 1) t
theorem fedG_snoc (n : Nat) (x : Int) : ∀ (l : List Int) (i : Nat), fedG n i (l ++ [x]) = fedG n i l ++ [⟨1 + (37 * ((i + l.length : Nat) : Int)) % 151, x % ((n : Int) + 1) - 1⟩]
  | [], i => by simp [fedG]
  | y :: t, i => by
    simp only [List.cons_append, fedG, fedG_snoc n x t (i + 1), List.length_cons]
    rw [show i + 1 + t.length = i + (t.length + 1) by omega]
theorem fedG_len (n : Nat) : ∀ (l : List Int) (i : Nat), (fedG n i l).length = l.length
  | [], _ => rfl
  | y :: t, i => by simp [fedG, fedG_len n t]
def fedF (caps l : List Int) : List FeedR := fedG caps.length 0 (l.take 150)

noncomputable def r27_0 : Array Oper := opsAt Try.f27 [0]
theorem r27_0_ok : dstOk 30 r27_0.toList = true ∧ r27_0.toList.all (fun o => noDefer o.op) = true := by decide +kernel
noncomputable def r27_1 : Array Oper := opsAt Try.f27 [1, 0]
theorem r27_1_ok : dstOk 30 r27_1.toList = true ∧ r27_1.toList.all (fun o => noDefer o.op) = true := by decide +kernel
noncomputable def r27_2 : Array Oper := opsAt Try.f27 [1, 1, 0, 0]
theorem r27_2_ok : dstOk 30 r27_2.toList = true ∧ r27_2.toList.all (fun o => noDefer o.op) = true := by decide +kernel
noncomputable def r27_3 : Array Oper := opsAt Try.f27 [1, 1, 0, 1, 0, 0, 0, 0]
theorem r27_3_ok : dstOk 30 r27_3.toList = true ∧ r27_3.toList.all (fun o => noDefer o.op) = true := by decide +kernel
noncomputable def r27_5 : Array Oper := opsAt Try.f27 [1, 1, 0, 1, 0, 0, 1, 0, 0]
theorem r27_5_ok : dstOk 30 r27_5.toList = true ∧ r27_5.toList.all (fun o => noDefer o.op) = true := by decide +kernel
noncomputable def r27_4 : Array Oper := opsAt Try.f27 [1, 1, 0, 1, 0, 0, 1, 1]
theorem r27_4_ok : dstOk 30 r27_4.toList = true ∧ r27_4.toList.all (fun o => noDefer o.op) = true := by decide +kernel
noncomputable def b27_0 : Code := (.seq (.seq (.region 3 r27_3 false) (.cond (.tmp 12) .skip (.exit 0))) (.seq (.block 1 (.region 5 r27_5 false)) (.region 4 r27_4 false)))
noncomputable def r27_6 : Array Oper := opsAt Try.f27 [1, 1, 1, 0, 0]
theorem r27_6_ok : dstOk 30 r27_6.toList = true ∧ r27_6.toList.all (fun o => noDefer o.op) = true := by decide +kernel
noncomputable def r27_7 : Array Oper := opsAt Try.f27 [1, 1, 1, 0, 1, 0, 0]
theorem r27_7_ok : dstOk 30 r27_7.toList = true ∧ r27_7.toList.all (fun o => noDefer o.op) = true := by decide +kernel
noncomputable def r27_8 : Array Oper := opsAt Try.f27 [1, 1, 1, 1, 0]
theorem r27_8_ok : dstOk 30 r27_8.toList = true ∧ r27_8.toList.all (fun o => noDefer o.op) = true := by decide +kernel
noncomputable def c27 : Code := (.seq (.region 0 r27_0 false) (.seq (.region 1 r27_1 false) (.seq (.seq (.region 2 r27_2 false) (.block 0 (.loop b27_0))) (.seq (.seq (.region 6 r27_6 false) (.cond (.tmp 27) (.seq (.region 7 r27_7 false) .ret) .skip)) (.seq (.region 8 r27_8 false) .ret)))))
theorem body27 : Try.f27.body = some c27 := by kernel_rfl
theorem machine_ok (b : Fl) (l : List Int) (hl : l.length ≤ 9223372036854775807) (hx : ∀ x ∈ l, u8r x) : PureCall Try.prog GL 27 [.sl 1 b (l.map u8AV)] (rowAV (machF l)) := by
  refine pure_of_body Try.func27 body27 (Nat.le_of_ble_eq_true rfl) (by simp) (by simp) ?_
  refine w_keep [(0, .sl 1 b (l.map u8AV))] ⟨rfl, trivial⟩ ?_
  unfold c27
  refine awp_seq ?_
  refine w_reg (l := r27_0.toList) rfl r27_0_ok ?_
  refine a_op rfl (o_as rfl) ?_
  refine a_nil ?_
  refine tq_n ?_
  refine awp_seq ?_
  refine w_reg (l := r27_1.toList) rfl r27_1_ok ?_
  refine a_op rfl (o_as rfl) ?_
  refine a_nil ?_
  refine tq_n ?_
  refine awp_seq ?_
  refine awp_seq ?_
  refine w_own (q := 3) (z := 1) (N := 0) (by decide) rfl rfl rfl ?_
  refine w_reg (l := r27_2.toList) rfl r27_2_ok ?_
  refine a_op rfl (o_as rfl) ?_
  refine a_nil ?_
  refine tq_n ?_
  refine awp_block ?_
  refine w_loop (fun i : Nat => i ≤ l.length ∧ i ≤ 12) (fun i => [(0, .sl 1 b (l.map u8AV)), (3, .slo 0 i 0 i), (4, .raw (.int .i64 (i : Int)))]) (fun i => [.vec 1 i (((l.take i).map fun x => 1 + x % 16).map intAV)]) (fun i => 12 - i) (0) ⟨by simp, by omega⟩ ⟨(by first | exact sub_int rfl (by omega) | rfl | exact sub_eq rfl (by simp)), (by first | exact sub_int rfl (by omega) | rfl | exact sub_eq rfl (by simp)), (by first | exact sub_int rfl (by omega) | rfl | exact sub_eq rfl (by simp)), trivial⟩ rfl ?_
  intro i ⟨hp1, hp2⟩
  unfold b27_0
  refine awp_seq ?_
  refine awp_seq ?_
  refine w_reg (l := r27_3.toList) rfl r27_3_ok ?_
  refine a_op rfl (o_mv rfl) ?_
  refine a_op rfl (o_mv rfl) ?_
  refine a_op rfl (o_len rfl rfl (by first | exact List.length_map .. | rfl) tl22) ?_
  refine a_if rfl (o_lt rfl rfl) (fun h1 => ?_) (fun h2 => ?_)
  · refine a_op rfl (o_mv rfl) ?_
    refine a_op rfl (o_mv rfl) ?_
    refine a_if rfl (o_lt rfl rfl) (fun h3 => ?_) (fun h4 => ?_)
    · refine a_op rfl (o_pkt rfl rfl) ?_
      refine a_nil ?_
      refine tq_n ?_
      refine w_true rfl ?_
      refine awp_skip ?_
      refine tq_n ?_
      refine awp_seq ?_
      refine awp_block ?_
      have hi : i < l.length := by omega
      have hxi := hx _ (List.getElem_mem hi)
      unfold u8r at hxi
      refine w_reg (l := r27_5.toList) rfl r27_5_ok ?_
      refine a_op rfl (o_mv rfl) ?_
      refine a_op rfl (o_mv rfl) ?_
      refine a_op rfl (o_mv rfl) ?_
      refine a_op rfl (o_ix te22 tn5 rfl rfl rfl (ixm _ _ _ hi)) ?_
      refine a_op rfl ((by first | exact o_ld tg5 rfl rfl | exact o_ldp tg5 rfl rfl rfl rfl)) ?_
      refine a_op rfl (o_rem rfl rfl (by omega) (by omega)) ?_
      refine a_op rfl (o_cv tk5 tk3 rfl (by simp only [klo, khi]; omega)) ?_
      refine a_op rfl (o_add rfl rfl (by simp only [klo, khi]; omega)) ?_
      refine a_op rfl (o_bs tE34 (by decide) rfl rfl rfl) ?_
      refine a_op rfl (o_ap tE34 rfl rfl (by simp [] <;> omega) rfl rfl rfl (by simp []; omega) (by simp []; omega) rfl rfl rfl rfl) ?_
      refine a_op rfl (o_as rfl) ?_
      refine a_nil ?_
      refine bq_n ?_
      refine tq_n ?_
      refine w_reg (l := r27_4.toList) rfl r27_4_ok ?_
      refine a_op rfl (o_mv rfl) ?_
      refine a_op rfl (o_add rfl rfl (by simp only [klo, khi]; omega)) ?_
      refine a_op rfl (o_as rfl) ?_
      refine a_nil ?_
      refine tq_n ?_
      exact ⟨i + 1, ⟨⟨by omega, by omega⟩, by omega⟩, ⟨(by first | exact sub_int rfl (by omega) | rfl | exact sub_eq rfl (by simp)), (by first | exact sub_int rfl (by omega) | rfl | exact sub_eq rfl (by simp)), (by first | exact sub_int rfl (by omega) | rfl | exact sub_eq rfl (by simp)), trivial⟩, by rw [List.take_succ_eq_append_getElem (by omega)]; simp only [List.map_append, List.map_cons, List.map_nil]; try rfl⟩
    refine a_op rfl (o_pkt rfl rfl) ?_
    refine a_nil ?_
    refine tq_n ?_
    refine w_false rfl ?_
    refine awp_exit ?_
    refine tq_x ?_
    refine tq_x ?_
    refine bq_hit ?_
    refine tq_n ?_
    refine awp_seq ?_
    refine awp_seq ?_
    refine w_reg (l := r27_6.toList) rfl r27_6_ok ?_
    refine a_op rfl (o_mv rfl) ?_
    refine a_op rfl (o_len (q := i) (j := i) rfl (by simp [lenAV]) rfl tl34) ?_
    refine a_if rfl (o_eq rfl rfl) (fun h5 => ?_) (fun h6 => ?_)
    · refine a_nil ?_
      refine tq_n ?_
      refine w_true rfl ?_
      refine awp_seq ?_
      refine w_reg (l := r27_7.toList) rfl r27_7_ok ?_
      refine a_op rfl (o_bs tE34 (by decide) rfl rfl rfl) ?_
      refine a_op rfl (o_as rfl) ?_
      refine a_nil ?_
      refine tq_n ?_
      refine awp_ret ?_
      refine tq_r ?_
      refine r_one rfl ⟨rfl, trivial⟩ ?_
      have ht : l.take i = l.take 12 := by
        rcases Nat.lt_or_ge i 12 with h | h
        · rw [List.take_of_length_le (show l.length ≤ i by omega), List.take_of_length_le (show l.length ≤ 12 by omega)]
        · rw [show i = 12 by omega]
      have h0 : l = [] := by
        have : i = 0 := by omega
        have : l.length = 0 := by omega
        exact List.length_eq_zero_iff.1 this
      subst h0
      exact rs_full (pu_int [3])
    refine a_nil ?_
    refine tq_n ?_
    refine w_false rfl ?_
    refine awp_skip ?_
    refine tq_n ?_
    refine awp_seq ?_
    refine w_reg (l := r27_8.toList) rfl r27_8_ok ?_
    refine a_op rfl (o_mv rfl) ?_
    refine a_op rfl (o_as rfl) ?_
    refine a_nil ?_
    refine tq_n ?_
    refine awp_ret ?_
    refine r_one rfl ⟨rfl, trivial⟩ ?_
    have ht : l.take i = l.take 12 := by
      rcases Nat.lt_or_ge i 12 with h | h
      · rw [List.take_of_length_le (show l.length ≤ i by omega), List.take_of_length_le (show l.length ≤ 12 by omega)]
      · rw [show i = 12 by omega]
    have hne : machL l ≠ [] := by
      intro h
      have := congrArg List.length h
      rw [machL, List.length_map, List.length_take, List.length_nil] at this
      omega
    exact rs_slo id rfl (by simp; omega) (pu_int _) (by rw [machF, if_neg hne, machL, ht])
  refine a_op rfl (o_mv rfl) ?_
  refine a_off rfl ?_
  refine a_off rfl ?_
  refine a_op rfl (o_pkf rfl rfl) ?_
  refine a_nil ?_
  refine tq_n ?_
  refine w_false rfl ?_
  refine awp_exit ?_
  refine tq_x ?_
  refine tq_x ?_
  refine bq_hit ?_
  refine tq_n ?_
  refine awp_seq ?_
  refine awp_seq ?_
  refine w_reg (l := r27_6.toList) rfl r27_6_ok ?_
  refine a_op rfl (o_mv rfl) ?_
  refine a_op rfl (o_len (q := i) (j := i) rfl (by simp [lenAV]) rfl tl34) ?_
  refine a_if rfl (o_eq rfl rfl) (fun h7 => ?_) (fun h8 => ?_)
  · refine a_nil ?_
    refine tq_n ?_
    refine w_true rfl ?_
    refine awp_seq ?_
    refine w_reg (l := r27_7.toList) rfl r27_7_ok ?_
    refine a_op rfl (o_bs tE34 (by decide) rfl rfl rfl) ?_
    refine a_op rfl (o_as rfl) ?_
    refine a_nil ?_
    refine tq_n ?_
    refine awp_ret ?_
    refine tq_r ?_
    refine r_one rfl ⟨rfl, trivial⟩ ?_
    have ht : l.take i = l.take 12 := by
      rcases Nat.lt_or_ge i 12 with h | h
      · rw [List.take_of_length_le (show l.length ≤ i by omega), List.take_of_length_le (show l.length ≤ 12 by omega)]
      · rw [show i = 12 by omega]
    have h0 : l = [] := by
      have : i = 0 := by omega
      have : l.length = 0 := by omega
      exact List.length_eq_zero_iff.1 this
    subst h0
    exact rs_full (pu_int [3])
  refine a_nil ?_
  refine tq_n ?_
  refine w_false rfl ?_
  refine awp_skip ?_
  refine tq_n ?_
  refine awp_seq ?_
  refine w_reg (l := r27_8.toList) rfl r27_8_ok ?_
  refine a_op rfl (o_mv rfl) ?_
  refine a_op rfl (o_as rfl) ?_
  refine a_nil ?_
  refine tq_n ?_
  refine awp_ret ?_
  refine r_one rfl ⟨rfl, trivial⟩ ?_
  have ht : l.take i = l.take 12 := by
    rcases Nat.lt_or_ge i 12 with h | h
    · rw [List.take_of_length_le (show l.length ≤ i by omega), List.take_of_length_le (show l.length ≤ 12 by omega)]
    · rw [show i = 12 by omega]
  have hne : machL l ≠ [] := by
    intro h
    have := congrArg List.length h
    rw [machL, List.length_map, List.length_take, List.length_nil] at this
    omega
  exact rs_slo id rfl (by simp; omega) (pu_int _) (by rw [machF, if_neg hne, machL, ht])
noncomputable def r28_0 : Array Oper := opsAt Try.f28 [0]
theorem r28_0_ok : dstOk 36 r28_0.toList = true ∧ r28_0.toList.all (fun o => noDefer o.op) = true := by decide +kernel
noncomputable def r28_1 : Array Oper := opsAt Try.f28 [1, 0]
theorem r28_1_ok : dstOk 36 r28_1.toList = true ∧ r28_1.toList.all (fun o => noDefer o.op) = true := by decide +kernel
noncomputable def r28_2 : Array Oper := opsAt Try.f28 [1, 1, 0, 0]
theorem r28_2_ok : dstOk 36 r28_2.toList = true ∧ r28_2.toList.all (fun o => noDefer o.op) = true := by decide +kernel
noncomputable def r28_3 : Array Oper := opsAt Try.f28 [1, 1, 0, 1, 0, 0, 0, 0]
theorem r28_3_ok : dstOk 36 r28_3.toList = true ∧ r28_3.toList.all (fun o => noDefer o.op) = true := by decide +kernel
noncomputable def r28_5 : Array Oper := opsAt Try.f28 [1, 1, 0, 1, 0, 0, 1, 0, 0]
theorem r28_5_ok : dstOk 36 r28_5.toList = true ∧ r28_5.toList.all (fun o => noDefer o.op) = true := by decide +kernel
noncomputable def r28_4 : Array Oper := opsAt Try.f28 [1, 1, 0, 1, 0, 0, 1, 1]
theorem r28_4_ok : dstOk 36 r28_4.toList = true ∧ r28_4.toList.all (fun o => noDefer o.op) = true := by decide +kernel
noncomputable def b28_0 : Code := (.seq (.seq (.region 3 r28_3 false) (.cond (.tmp 14) .skip (.exit 0))) (.seq (.block 1 (.region 5 r28_5 false)) (.region 4 r28_4 false)))
noncomputable def r28_6 : Array Oper := opsAt Try.f28 [1, 1, 1, 0]
theorem r28_6_ok : dstOk 36 r28_6.toList = true ∧ r28_6.toList.all (fun o => noDefer o.op) = true := by decide +kernel
noncomputable def c28 : Code := (.seq (.region 0 r28_0 false) (.seq (.region 1 r28_1 false) (.seq (.seq (.region 2 r28_2 false) (.block 0 (.loop b28_0))) (.seq (.region 6 r28_6 false) .ret))))
theorem body28 : Try.f28.body = some c28 := by kernel_rfl
theorem fed_ok (b2 : Fl) (cs : List Int) (hl2 : cs.length ≤ 100) (b : Fl) (l : List Int) (hl : l.length ≤ 9223372036854775807) (hx : ∀ x ∈ l, u8r x) : PureCall Try.prog GL 28 [.sl 1 b2 (cs.map intAV), .sl 1 b (l.map u8AV)] (.sl 2 false ((fedF cs l).map feedAV)) := by
  refine pure_of_body Try.func28 body28 (Nat.le_of_ble_eq_true rfl) (by simp) (by simp) ?_
  refine w_keep [(0, .sl 1 b2 (cs.map intAV)), (1, .sl 1 b (l.map u8AV))] ⟨rfl, rfl, trivial⟩ ?_
  unfold c28
  refine awp_seq ?_
  refine w_reg (l := r28_0.toList) rfl r28_0_ok ?_
  refine a_op rfl (o_as rfl) ?_
  refine a_nil ?_
  refine tq_n ?_
  refine awp_seq ?_
  refine w_reg (l := r28_1.toList) rfl r28_1_ok ?_
  refine a_op rfl (o_as rfl) ?_
  refine a_nil ?_
  refine tq_n ?_
  refine awp_seq ?_
  refine awp_seq ?_
  refine w_own (q := 5) (z := 2) (N := 0) (by decide) rfl rfl rfl ?_
  refine w_reg (l := r28_2.toList) rfl r28_2_ok ?_
  refine a_op rfl (o_as rfl) ?_
  refine a_nil ?_
  refine tq_n ?_
  refine awp_block ?_
  refine w_loop (fun i : Nat => i ≤ l.length ∧ i ≤ 150) (fun i => [(0, .sl 1 b2 (cs.map intAV)), (1, .sl 1 b (l.map u8AV)), (5, .slo 0 i 0 i), (6, .raw (.int .i64 (i : Int)))]) (fun i => [.vec 2 i ((fedG cs.length 0 (l.take i)).map feedAV)]) (fun i => 150 - i) (0) ⟨by simp, by omega⟩ ⟨(by first | exact sub_int rfl (by omega) | rfl | exact sub_eq rfl (by simp)), (by first | exact sub_int rfl (by omega) | rfl | exact sub_eq rfl (by simp)), (by first | exact sub_int rfl (by omega) | rfl | exact sub_eq rfl (by simp)), (by first | exact sub_int rfl (by omega) | rfl | exact sub_eq rfl (by simp)), trivial⟩ rfl ?_
  intro i ⟨hp1, hp2⟩
  unfold b28_0
  refine awp_seq ?_
  refine awp_seq ?_
  refine w_reg (l := r28_3.toList) rfl r28_3_ok ?_
  refine a_op rfl (o_mv rfl) ?_
  refine a_op rfl (o_mv rfl) ?_
  refine a_op rfl (o_len rfl rfl (by first | exact List.length_map .. | rfl) tl22) ?_
  refine a_if rfl (o_lt rfl rfl) (fun h1 => ?_) (fun h2 => ?_)
  · refine a_op rfl (o_mv rfl) ?_
    refine a_op rfl (o_mv rfl) ?_
    refine a_if rfl (o_lt rfl rfl) (fun h3 => ?_) (fun h4 => ?_)
    · refine a_op rfl (o_pkt rfl rfl) ?_
      refine a_nil ?_
      refine tq_n ?_
      refine w_true rfl ?_
      refine awp_skip ?_
      refine tq_n ?_
      refine awp_seq ?_
      refine awp_block ?_
      have hi : i < l.length := by omega
      have hxi := hx _ (List.getElem_mem hi)
      unfold u8r at hxi
      have hrm := Int.emod_nonneg (l[i]) (show (cs.length : Int) + 1 ≠ 0 by omega)
      have hrl := Int.emod_lt_of_pos (l[i]) (show 0 < (cs.length : Int) + 1 by omega)
      refine w_reg (l := r28_5.toList) rfl r28_5_ok ?_
      refine a_op rfl (o_mv rfl) ?_
      refine a_op rfl (o_mv rfl) ?_
      refine a_op rfl (o_mul rfl rfl (by simp only [klo, khi]; omega)) ?_
      refine a_op rfl (o_rem rfl rfl (by omega) (by omega)) ?_
      refine a_op rfl (o_add rfl rfl (by simp only [klo, khi]; omega)) ?_
      refine a_op rfl (o_mv rfl) ?_
      refine a_op rfl (o_mv rfl) ?_
      refine a_op rfl (o_ix te22 tn5 rfl rfl rfl (ixm _ _ _ hi)) ?_
      refine a_op rfl ((by first | exact o_ld tg5 rfl rfl | exact o_ldp tg5 rfl rfl rfl rfl)) ?_
      refine a_op rfl (o_cv tk5 tk3 rfl (by simp only [klo, khi]; omega)) ?_
      refine a_op rfl (o_mv rfl) ?_
      refine a_op rfl (o_len rfl rfl (by first | exact List.length_map .. | rfl) tl34) ?_
      refine a_op rfl (o_add rfl rfl (by simp only [klo, khi]; omega)) ?_
      refine a_op rfl (o_rem rfl rfl (by omega) (by omega)) ?_
      refine a_op rfl (o_sub rfl rfl (by simp only [klo, khi]; omega)) ?_
      refine a_op rfl (o_bd tz75 rfl tp75 rfl rfl) ?_
      refine a_op rfl (o_bs tE68 (by decide) rfl rfl rfl) ?_
      refine a_op rfl (o_ap tE68 rfl rfl (by simp [fedG_len] <;> omega) rfl rfl rfl (by simp [fedG_len]; omega) (by simp [fedG_len]; omega) rfl rfl rfl rfl) ?_
      refine a_op rfl (o_as rfl) ?_
      refine a_nil ?_
      refine bq_n ?_
      refine tq_n ?_
      refine w_reg (l := r28_4.toList) rfl r28_4_ok ?_
      refine a_op rfl (o_mv rfl) ?_
      refine a_op rfl (o_add rfl rfl (by simp only [klo, khi]; omega)) ?_
      refine a_op rfl (o_as rfl) ?_
      refine a_nil ?_
      refine tq_n ?_
      exact ⟨i + 1, ⟨⟨by omega, by omega⟩, by omega⟩, ⟨(by first | exact sub_int rfl (by omega) | rfl | exact sub_eq rfl (by simp)), (by first | exact sub_int rfl (by omega) | rfl | exact sub_eq rfl (by simp)), (by first | exact sub_int rfl (by omega) | rfl | exact sub_eq rfl (by simp)), (by first | exact sub_int rfl (by omega) | rfl | exact sub_eq rfl (by simp)), trivial⟩, by rw [List.take_succ_eq_append_getElem (by omega), fedG_snoc]; simp only [List.map_append, List.map_cons, List.map_nil, List.length_take, Nat.zero_add, Nat.min_eq_left hp1]; try rfl⟩
    refine a_op rfl (o_pkt rfl rfl) ?_
    refine a_nil ?_
    refine tq_n ?_
    refine w_false rfl ?_
    refine awp_exit ?_
    refine tq_x ?_
    refine tq_x ?_
    refine bq_hit ?_
    refine tq_n ?_
    refine awp_seq ?_
    refine w_reg (l := r28_6.toList) rfl r28_6_ok ?_
    refine a_op rfl (o_mv rfl) ?_
    refine a_op rfl (o_as rfl) ?_
    refine a_nil ?_
    refine tq_n ?_
    refine awp_ret ?_
    refine r_one rfl ⟨rfl, trivial⟩ ?_
    have ht : l.take i = l.take 150 := by
      rcases Nat.lt_or_ge i 150 with h | h
      · rw [List.take_of_length_le (show l.length ≤ i by omega), List.take_of_length_le (show l.length ≤ 150 by omega)]
      · rw [show i = 150 by omega]
    exact rs_slo id rfl (by simp [fedG_len]; omega) (pu_feed _) (by rw [fedF, ht])
  refine a_op rfl (o_mv rfl) ?_
  refine a_off rfl ?_
  refine a_off rfl ?_
  refine a_op rfl (o_pkf rfl rfl) ?_
  refine a_nil ?_
  refine tq_n ?_
  refine w_false rfl ?_
  refine awp_exit ?_
  refine tq_x ?_
  refine tq_x ?_
  refine bq_hit ?_
  refine tq_n ?_
  refine awp_seq ?_
  refine w_reg (l := r28_6.toList) rfl r28_6_ok ?_
  refine a_op rfl (o_mv rfl) ?_
  refine a_op rfl (o_as rfl) ?_
  refine a_nil ?_
  refine tq_n ?_
  refine awp_ret ?_
  refine r_one rfl ⟨rfl, trivial⟩ ?_
  have ht : l.take i = l.take 150 := by
    rcases Nat.lt_or_ge i 150 with h | h
    · rw [List.take_of_length_le (show l.length ≤ i by omega), List.take_of_length_le (show l.length ≤ 150 by omega)]
    · rw [show i = 150 by omega]
  exact rs_slo id rfl (by simp [fedG_len]; omega) (pu_feed _) (by rw [fedF, ht])
end Go.Ab.S
namespace Go.Ab.S
open Go Go.Ab Go.Proofs
theorem inV_eq : inV = intAV := rfl

noncomputable def r112_0 : Array Oper := opsAt Try.f112 [0]
theorem r112_0_ok : dstOk 4 r112_0.toList = true ∧ r112_0.toList.all (fun o => noDefer o.op) = true := by decide +kernel
noncomputable def r112_1 : Array Oper := opsAt Try.f112 [1, 0]
theorem r112_1_ok : dstOk 4 r112_1.toList = true ∧ r112_1.toList.all (fun o => noDefer o.op) = true := by decide +kernel
noncomputable def c112 : Code := (.seq (.region 0 r112_0 false) (.seq (.region 1 r112_1 false) .ret))
theorem body112 : Try.f112.body = some c112 := by kernel_rfl
theorem values_ok (b : Fl) (xs : List Int) : PureCall Try.prog GL 112 [.sl 1 b (xs.map intAV)] (.fn 141 [] [.rp [.sl 1 b (xs.map intAV)]]) := by
  refine pure_of_body Try.func112 body112 (Nat.le_of_ble_eq_true rfl) (by simp) (by simp) ?_
  refine w_keep [(0, .sl 1 b (xs.map intAV))] ⟨rfl, trivial⟩ ?_
  unfold c112
  refine awp_seq ?_
  refine w_reg (l := r112_0.toList) rfl r112_0_ok ?_
  refine a_op rfl (o_box (N := 0) rfl (by rfl) rfl rfl) ?_
  refine a_op rfl (o_as rfl) ?_
  refine a_nil ?_
  refine tq_n ?_
  refine awp_seq ?_
  refine w_reg (l := r112_1.toList) rfl r112_1_ok ?_
  refine a_op rfl (o_mf rfl rfl) ?_
  refine a_op rfl (o_as rfl) ?_
  refine a_nil ?_
  refine tq_n ?_
  refine awp_ret ?_
  refine r_one rfl ⟨rfl, trivial⟩ ?_
  exact rs_fn trivial ⟨rs_ptr id rfl rfl ⟨rs_pur (by simp) rfl, trivial⟩, trivial⟩
noncomputable def r151_0 : Array Oper := opsAt Try.f151 [0]
theorem r151_0_ok : dstOk 13 r151_0.toList = true ∧ r151_0.toList.all (fun o => noDefer o.op) = true := by decide +kernel
noncomputable def r151_1 : Array Oper := opsAt Try.f151 [1, 0, 0]
theorem r151_1_ok : dstOk 13 r151_1.toList = true ∧ r151_1.toList.all (fun o => noDefer o.op) = true := by decide +kernel
noncomputable def r151_2 : Array Oper := opsAt Try.f151 [1, 0, 1, 0, 0]
theorem r151_2_ok : dstOk 13 r151_2.toList = true ∧ r151_2.toList.all (fun o => noDefer o.op) = true := by decide +kernel
noncomputable def r151_3 : Array Oper := opsAt Try.f151 [1, 0, 1, 0, 1, 0]
theorem r151_3_ok : dstOk 13 r151_3.toList = true ∧ r151_3.toList.all (fun o => noDefer o.op) = true := by decide +kernel
noncomputable def b151_0 : Code := (.region 2 r151_2 false)
noncomputable def b151_1 : Code := (.block 1 (.region 3 r151_3 false))
noncomputable def r151_4 : Array Oper := opsAt Try.f151 [1, 1, 0]
theorem r151_4_ok : dstOk 13 r151_4.toList = true ∧ r151_4.toList.all (fun o => noDefer o.op) = true := by decide +kernel
noncomputable def c151 : Code := (.seq (.region 0 r151_0 false) (.seq (.seq (.region 1 r151_1 false) (.block 0 (.rangeFunc (.tmp 6) #[7] b151_0 b151_1))) (.seq (.region 4 r151_4 false) .ret)))
theorem body151 : Try.f151.body = some c151 := by kernel_rfl

noncomputable def qL (b : Fl) (xs : List Int) (st : LoopState) : LoopA := { state := st, pending := none, F := [(2, .ptr 0 0), (6, .fn 141 [] [.rp [.sl 1 b (xs.map intAV)]])], N := 13, params := #[7], assign := b151_0, body := b151_1 }
noncomputable def qH (b : Fl) (xs : List Int) (i : Nat) : Heap := [.var [.slo 1 i 0 i], .vec 1 i ((xs.take i).map intAV), .loopo (qL b xs .ready)]

noncomputable def r141_0 : Array Oper := opsAt Try.f141 [0]
theorem r141_0_ok : dstOk 16 r141_0.toList = true ∧ r141_0.toList.all (fun o => noDefer o.op) = true := by decide +kernel
noncomputable def r141_1 : Array Oper := opsAt Try.f141 [1, 0, 0, 0]
theorem r141_1_ok : dstOk 16 r141_1.toList = true ∧ r141_1.toList.all (fun o => noDefer o.op) = true := by decide +kernel
noncomputable def r141_2 : Array Oper := opsAt Try.f141 [1, 0, 0, 1, 1, 0, 0, 0]
theorem r141_2_ok : dstOk 16 r141_2.toList = true ∧ r141_2.toList.all (fun o => noDefer o.op) = true := by decide +kernel
noncomputable def r141_3 : Array Oper := opsAt Try.f141 [1, 0, 0, 1, 1, 0, 0, 1, 0]
theorem r141_3_ok : dstOk 16 r141_3.toList = true ∧ r141_3.toList.all (fun o => noDefer o.op) = true := by decide +kernel
noncomputable def r141_4 : Array Oper := opsAt Try.f141 [1, 0, 0, 1, 1, 1]
theorem r141_4_ok : dstOk 16 r141_4.toList = true ∧ r141_4.toList.all (fun o => noDefer o.op) = true := by decide +kernel
noncomputable def b141_0 : Code := (.seq (.region 1 r141_1 false) (.seq (.cond (.tmp 8) .skip (.exit 0)) (.seq (.block 1 (.seq (.region 2 r141_2 false) (.seq (.region 3 r141_3 false) (.cond (.tmp 14) .ret .skip)))) (.region 4 r141_4 false))))
noncomputable def c141 : Code := (.seq (.region 0 r141_0 false) (.block 0 (.loop b141_0)))
theorem body141 : Try.f141.body = some c141 := by kernel_rfl
theorem vals1_ok (b : Fl) (xs : List Int) (hl : xs.length ≤ 1000000) : ACall Try.prog GL 141 [.yl 2, .rp [.sl 1 b (xs.map intAV)]] (qH b xs 0) (fun r H' => r = .tup [] ∧ H' = qH b xs xs.length) := by
  refine acall_of_body Try.func141 body141 (Nat.le_of_ble_eq_true rfl) ?_
  refine w_keep [(0, .yl 2), (1, .rp [.sl 1 b (xs.map intAV)])] ⟨rfl, rfl, trivial⟩ ?_
  unfold c141
  refine awp_seq ?_
  refine w_reg (l := r141_0.toList) rfl r141_0_ok ?_
  refine a_op rfl ((by first | exact o_ld tg34 rfl rfl | exact o_ldp tg34 rfl rfl rfl rfl)) ?_
  refine a_op rfl (o_len rfl rfl (by first | exact List.length_map .. | rfl) tl34) ?_
  refine a_op rfl (o_mv rfl) ?_
  refine a_nil ?_
  refine tq_n ?_
  refine awp_block ?_
  refine w_loop (fun i : Nat => i ≤ xs.length) (fun i => [(0, .yl 2), (1, .rp [.sl 1 b (xs.map intAV)]), (5, .sl 1 b (xs.map intAV)), (6, .raw (.int .i64 (xs.length : Int))), (7, .raw (.int .i64 (i : Int)))]) (fun i => qH b xs i) (fun i => xs.length - i) (0) (by simp) ⟨(by first | exact sub_int rfl (by omega) | rfl), (by first | exact sub_int rfl (by omega) | rfl), (by first | exact sub_int rfl (by omega) | rfl), (by first | exact sub_int rfl (by omega) | rfl), (by first | exact sub_int rfl (by omega) | rfl), trivial⟩ rfl ?_
  intro i hp
  unfold b141_0
  refine awp_seq ?_
  refine w_reg (l := r141_1.toList) rfl r141_1_ok ?_
  refine a_if rfl (o_lt rfl rfl) (fun h1 => ?_) (fun h2 => ?_)
  · refine a_nil ?_
    refine tq_n ?_
    refine awp_seq ?_
    refine w_true rfl ?_
    refine awp_skip ?_
    refine tq_n ?_
    refine awp_seq ?_
    refine awp_block ?_
    refine awp_seq ?_
    have hi : i < xs.length := by omega
    refine w_reg (l := r141_2.toList) rfl r141_2_ok ?_
    refine a_op rfl (o_ix te34 tn3 rfl rfl rfl (ixm _ _ _ hi)) ?_
    refine a_op rfl ((by first | exact o_ld tg3 rfl rfl | exact o_ldp tg3 rfl rfl rfl rfl)) ?_
    refine a_op rfl (o_as rfl) ?_
    refine a_nil ?_
    refine tq_n ?_
    refine awp_seq ?_
    refine w_reg (l := r141_3.toList) rfl r141_3_ok ?_
    refine a_op rfl (o_mv rfl) ?_
    refine a_op rfl (o_mv rfl) ?_
    refine a_yield (N := 3) (l := qL b xs .ready) rfl rfl rfl rfl rfl rfl rfl rfl ?_
    show AWp _ b151_0 _ _ _
    unfold b151_0
    refine w_keep [(2, .ptr 0 0), (7, intAV (xs[i]'hi))] ⟨rfl, rfl, trivial⟩ ?_
    refine w_reg (l := r151_2.toList) rfl r151_2_ok ?_
    refine a_op rfl (o_as rfl) ?_
    refine a_nil ?_
    refine tq_n ?_
    refine ⟨_, rfl, rfl, rfl, _, rfl, ?_⟩
    show AWp _ b151_1 _ _ _
    unfold b151_1
    refine awp_block ?_
    refine w_reg (l := r151_3.toList) rfl r151_3_ok ?_
    refine a_op rfl ((by first | exact o_ld tg34 rfl rfl | exact o_ldp tg34 rfl rfl rfl rfl)) ?_
    refine a_op rfl (o_mv rfl) ?_
    refine a_op rfl (o_bs tE34 (by decide) rfl rfl rfl) ?_
    refine a_op rfl (o_ap tE34 rfl rfl (by simp; omega) rfl rfl rfl (by simp; omega) (by simp; omega) rfl rfl rfl rfl) ?_
    refine a_op0 rfl (o_st (N := 0) tn34 rfl rfl (by first | rfl | exact good_slo rfl) rfl rfl) ?_
    refine a_nil ?_
    refine bq_n ?_
    refine q_next (i := 2) rfl rfl ?_
    refine a_op rfl (o_ntt rfl) ?_
    refine a_nil ?_
    refine tq_n ?_
    refine w_false rfl ?_
    refine awp_skip ?_
    refine bq_n ?_
    refine tq_n ?_
    refine w_reg (l := r141_4.toList) rfl r141_4_ok ?_
    refine a_op rfl (o_add rfl rfl (by simp only [klo, khi]; omega)) ?_
    refine a_op rfl (o_mv rfl) ?_
    refine a_nil ?_
    refine tq_n ?_
    exact ⟨i + 1, ⟨by omega, by omega⟩, ⟨(by first | exact sub_int rfl (by omega) | rfl), (by first | exact sub_int rfl (by omega) | rfl), (by first | exact sub_int rfl (by omega) | rfl), (by first | exact sub_int rfl (by omega) | rfl), (by first | exact sub_int rfl (by omega) | rfl), trivial⟩, by rw [qH, List.take_succ_eq_append_getElem (by omega)]; simp only [List.map_append, List.map_cons, List.map_nil]; try rfl⟩
  refine a_nil ?_
  refine tq_n ?_
  refine awp_seq ?_
  refine w_false rfl ?_
  refine awp_exit ?_
  refine tq_x ?_
  refine tq_x ?_
  refine bq_hit ?_
  refine r_norm ?_
  refine r_none rfl trivial ?_
  refine ⟨rfl, ?_⟩
  rw [show i = xs.length by omega]
theorem appendSeq_ok (b : Fl) (xs : List Int) (hl : xs.length ≤ 1000000) : ACall Try.prog GL 151 [.raw (.slice none 0 0), .fn 141 [] [.rp [.sl 1 b (xs.map intAV)]]] ([]) (fun r H' => r = .slo 1 xs.length 0 xs.length ∧ ∃ o2, H' = [.var [.slo 1 xs.length 0 xs.length], .vec 1 xs.length (xs.map intAV), o2]) := by
  refine acall_of_body Try.func151 body151 (Nat.le_of_ble_eq_true rfl) ?_
  refine w_keep [(0, .raw (.slice none 0 0)), (1, .fn 141 [] [.rp [.sl 1 b (xs.map intAV)]])] ⟨rfl, rfl, trivial⟩ ?_
  unfold c151
  refine awp_seq ?_
  refine w_reg (l := r151_0.toList) rfl r151_0_ok ?_
  refine a_op rfl (o_box (N := 0) rfl (by rfl) rfl rfl) ?_
  refine a_op rfl (o_as rfl) ?_
  refine a_nil ?_
  refine tq_n ?_
  refine awp_seq ?_
  refine awp_seq ?_
  refine w_reg (l := r151_1.toList) rfl r151_1_ok ?_
  refine a_op rfl (o_mv rfl) ?_
  refine a_nil ?_
  refine tq_n ?_
  refine awp_block ?_
  refine w_ownc (i := 0) (j := 0) (z := 1) (N := 1) (by decide) rfl rfl rfl rfl rfl rfl ?_
  refine w_keep [(2, .ptr 0 0), (6, .fn 141 [] [.rp [.sl 1 b (xs.map intAV)]])] ⟨rfl, rfl, trivial⟩ ?_
  refine awp_rangeFunc (R := fun r H' => r = .tup [] ∧ H' = qH b xs xs.length) rfl (evx_eq (v := .fn 141 [] [.rp [.sl 1 b (xs.map intAV)]]) rfl) cb141 ?_ ?_
  · exact (vals1_ok b xs hl).calls
  rintro r H' ⟨rfl, rfl⟩
  refine after_end (l := qL b xs .ready) rfl rfl rfl rfl ?_
  refine bq_n ?_
  refine tq_n ?_
  refine awp_seq ?_
  refine w_reg (l := r151_4.toList) rfl r151_4_ok ?_
  refine a_op rfl ((by first | exact o_ld tg34 rfl rfl | exact o_ldp tg34 rfl rfl rfl rfl)) ?_
  refine a_op rfl (o_as rfl) ?_
  refine a_nil ?_
  refine tq_n ?_
  refine awp_ret ?_
  refine r_one rfl ⟨rfl, trivial⟩ ?_
  exact ⟨rfl, ⟨_, by rw [List.take_length]⟩⟩
noncomputable def r139_0 : Array Oper := opsAt Try.f139 [0]
theorem r139_0_ok : dstOk 5 r139_0.toList = true ∧ r139_0.toList.all (fun o => noDefer o.op) = true := by decide +kernel
noncomputable def r139_1 : Array Oper := opsAt Try.f139 [1, 0]
theorem r139_1_ok : dstOk 5 r139_1.toList = true ∧ r139_1.toList.all (fun o => noDefer o.op) = true := by decide +kernel
noncomputable def c139 : Code := (.seq (.region 0 r139_0 false) (.seq (.region 1 r139_1 false) .ret))
theorem body139 : Try.f139.body = some c139 := by kernel_rfl
theorem collect_ok (b : Fl) (xs : List Int) (hl : xs.length ≤ 1000000) : ACall Try.prog GL 139 [.fn 141 [] [.rp [.sl 1 b (xs.map intAV)]]] ([]) (fun r H' => r = .slo 1 xs.length 0 xs.length ∧ ∃ o2, H' = [.var [.slo 1 xs.length 0 xs.length], .vec 1 xs.length (xs.map intAV), o2]) := by
  refine acall_of_body Try.func139 body139 (Nat.le_of_ble_eq_true rfl) ?_
  refine w_keep [(0, .fn 141 [] [.rp [.sl 1 b (xs.map intAV)]])] ⟨rfl, trivial⟩ ?_
  unfold c139
  refine awp_seq ?_
  refine w_reg (l := r139_0.toList) rfl r139_0_ok ?_
  refine a_op rfl (o_as rfl) ?_
  refine a_nil ?_
  refine tq_n ?_
  refine awp_seq ?_
  refine w_reg (l := r139_1.toList) rfl r139_1_ok ?_
  refine a_op rfl (o_mv rfl) ?_
  refine a_call rfl rfl rfl cb151 (appendSeq_ok b xs hl).calls ?_
  rintro r H' ⟨rfl, o2, rfl⟩
  refine a_op rfl (o_as rfl) ?_
  refine a_nil ?_
  refine tq_n ?_
  refine awp_ret ?_
  refine r_one rfl ⟨rfl, trivial⟩ ?_
  exact ⟨rfl, ⟨_, rfl⟩⟩

theorem mAt {α : Type} {l : List α} {f : α → AV} {j : Nat} (hj : j < l.length) : (l.map f)[j]? = some (f l[j]) := by simp [hj]
theorem sort_ok {xs : List Int} {o1 o2 : AObj} (hl : xs.length ≤ 1000000) : ACall Try.prog GL 140 [.slo 1 xs.length 0 xs.length] [o1, .vec 1 xs.length (xs.map intAV), o2] (fun r H' => r = .tup [] ∧ H' = [o1, .vec 1 xs.length ((srt xs).map intAV), o2]) := by
  by_cases hx : xs = []
  · subst hx
    have h0 : (srt []).map intAV = [] := by simp [srt]
    rw [h0]
    exact sort_acall0 (P := Try.prog) Try.lays189 (H := [o1, .vec 1 0 [], o2]) (i := 1) rfl
  · exact sort_acall (P := Try.prog) Try.lays189 (H := [o1, .vec 1 xs.length (xs.map intAV), o2]) (i := 1) (xs := xs) rfl hx (by omega)
theorem compact_ok {xs : List Int} {n : Nat} {o1 o2 : AObj} (hl : xs.length ≤ 1000000) (hx : 0 < xs.length) (hn : n = xs.length) : ACall Try.prog GL 113 [.slo 1 n 0 n] [o1, .vec 1 n (xs.map intAV), o2] (fun r H' => r = .slo 1 n 0 (Lib.compact xs).length ∧ H' = [o1, .vec 1 n ((Lib.compact xs ++ List.replicate (xs.length - (Lib.compact xs).length) 0).map intAV), o2]) := by
  subst hn
  exact compact_acall (P := Try.prog) Try.laysNm220 (H := [o1, .vec 1 xs.length (xs.map intAV), o2]) (i := 1) (xs := xs) rfl (List.length_pos_iff.1 hx) (by omega)

noncomputable def r111_0 : Array Oper := opsAt Try.f111 [0]
theorem r111_0_ok : dstOk 9 r111_0.toList = true ∧ r111_0.toList.all (fun o => noDefer o.op) = true := by decide +kernel
noncomputable def r111_1 : Array Oper := opsAt Try.f111 [1, 0]
theorem r111_1_ok : dstOk 9 r111_1.toList = true ∧ r111_1.toList.all (fun o => noDefer o.op) = true := by decide +kernel
noncomputable def r111_2 : Array Oper := opsAt Try.f111 [1, 1, 0]
theorem r111_2_ok : dstOk 9 r111_2.toList = true ∧ r111_2.toList.all (fun o => noDefer o.op) = true := by decide +kernel
noncomputable def r111_3 : Array Oper := opsAt Try.f111 [1, 1, 1, 0]
theorem r111_3_ok : dstOk 9 r111_3.toList = true ∧ r111_3.toList.all (fun o => noDefer o.op) = true := by decide +kernel
noncomputable def c111 : Code := (.seq (.region 0 r111_0 false) (.seq (.region 1 r111_1 false) (.seq (.region 2 r111_2 false) (.seq (.region 3 r111_3 false) .ret))))
theorem body111 : Try.f111.body = some c111 := by kernel_rfl
theorem sorted_ok (b : Fl) (xs : List Int) (hl : xs.length ≤ 1000000) : ACall Try.prog GL 111 [.fn 141 [] [.rp [.sl 1 b (xs.map intAV)]]] ([]) (fun r H' => r = .slo 1 xs.length 0 xs.length ∧ ∃ o1 o2, H' = [o1, .vec 1 xs.length ((srt xs).map intAV), o2]) := by
  refine acall_of_body Try.func111 body111 (Nat.le_of_ble_eq_true rfl) ?_
  refine w_keep [(0, .fn 141 [] [.rp [.sl 1 b (xs.map intAV)]])] ⟨rfl, trivial⟩ ?_
  unfold c111
  refine awp_seq ?_
  refine w_reg (l := r111_0.toList) rfl r111_0_ok ?_
  refine a_op rfl (o_as rfl) ?_
  refine a_nil ?_
  refine tq_n ?_
  refine awp_seq ?_
  refine w_reg (l := r111_1.toList) rfl r111_1_ok ?_
  refine a_op rfl (o_mv rfl) ?_
  refine a_call rfl rfl rfl cb139 (collect_ok b xs hl).calls ?_
  rintro r H' ⟨rfl, o2, rfl⟩
  refine a_op rfl (o_as rfl) ?_
  refine a_nil ?_
  refine tq_n ?_
  refine awp_seq ?_
  refine w_reg (l := r111_2.toList) rfl r111_2_ok ?_
  refine a_op rfl (o_mv rfl) ?_
  refine a_call rfl rfl rfl cb140 (sort_ok hl).calls ?_
  rintro r H' ⟨rfl, rfl⟩
  refine a_nil ?_
  refine tq_n ?_
  refine awp_seq ?_
  refine w_reg (l := r111_3.toList) rfl r111_3_ok ?_
  refine a_op rfl (o_mv rfl) ?_
  refine a_op rfl (o_as rfl) ?_
  refine a_nil ?_
  refine tq_n ?_
  refine awp_ret ?_
  refine r_one rfl ⟨rfl, trivial⟩ ?_
  exact ⟨rfl, _, _, rfl⟩
noncomputable def r74_0 : Array Oper := opsAt Try.f74 [0]
theorem r74_0_ok : dstOk 33 r74_0.toList = true ∧ r74_0.toList.all (fun o => noDefer o.op) = true := by decide +kernel
noncomputable def r74_1 : Array Oper := opsAt Try.f74 [1, 0]
theorem r74_1_ok : dstOk 33 r74_1.toList = true ∧ r74_1.toList.all (fun o => noDefer o.op) = true := by decide +kernel
noncomputable def r74_2 : Array Oper := opsAt Try.f74 [1, 1, 0]
theorem r74_2_ok : dstOk 33 r74_2.toList = true ∧ r74_2.toList.all (fun o => noDefer o.op) = true := by decide +kernel
noncomputable def c74 : Code := (.seq (.region 0 r74_0 false) (.seq (.region 1 r74_1 false) (.seq (.region 2 r74_2 false) .ret)))
theorem body74 : Try.f74.body = some c74 := by kernel_rfl
theorem different_ok (b : Fl) (xs : List Int) (hl : xs.length ≤ 1000000) : PureCall Try.prog GL 74 [.sl 1 b (xs.map intAV)] (.raw (.bool (diffF xs))) := by
  refine pure_of_body Try.func74 body74 (Nat.le_of_ble_eq_true rfl) (by simp) (by simp) ?_
  refine w_keep [(0, .sl 1 b (xs.map intAV))] ⟨rfl, trivial⟩ ?_
  unfold c74
  have hs := srt_len xs
  refine awp_seq ?_
  refine w_reg (l := r74_0.toList) rfl r74_0_ok ?_
  refine a_op rfl (o_as rfl) ?_
  refine a_nil ?_
  refine tq_n ?_
  refine awp_seq ?_
  refine w_reg (l := r74_1.toList) rfl r74_1_ok ?_
  refine a_op rfl (o_mv rfl) ?_
  refine a_pure rfl rfl rfl cb112 (values_ok _ _) ?_
  refine a_call rfl rfl rfl cb111 (sorted_ok b xs hl).calls ?_
  rintro r H' ⟨rfl, o1, o2, rfl⟩
  refine a_op rfl (o_as rfl) ?_
  refine a_nil ?_
  refine tq_n ?_
  refine awp_seq ?_
  refine w_reg (l := r74_2.toList) rfl r74_2_ok ?_
  refine a_op rfl (o_mv rfl) ?_
  refine a_op rfl (o_len (q := xs.length) (j := xs.length) rfl (by simp [lenAV] <;> omega) rfl tl34) ?_
  refine a_if rfl (o_eq rfl rfl) (fun h1 => ?_) (fun h2 => ?_)
  · refine a_op rfl (o_mv rfl) ?_
    refine a_off rfl ?_
    refine a_off rfl ?_
    refine a_off rfl ?_
    refine a_off rfl ?_
    refine a_off rfl ?_
    refine a_off rfl ?_
    refine a_off rfl ?_
    refine a_off rfl ?_
    refine a_off rfl ?_
    refine a_off rfl ?_
    refine a_off rfl ?_
    refine a_off rfl ?_
    refine a_off rfl ?_
    refine a_off rfl ?_
    refine a_off rfl ?_
    refine a_off rfl ?_
    refine a_off rfl ?_
    refine a_off rfl ?_
    refine a_off rfl ?_
    refine a_off rfl ?_
    refine a_off rfl ?_
    refine a_op rfl (o_pkt rfl rfl) ?_
    refine a_op rfl (o_as rfl) ?_
    refine a_nil ?_
    refine tq_n ?_
    refine awp_ret ?_
    refine r_one rfl ⟨rfl, trivial⟩ ?_
    exact rs_pur (by simp) (by
      have : xs = [] := List.length_eq_zero_iff.1 (by omega)
      subst this; rfl)
  refine a_op rfl (o_mv rfl) ?_
  refine a_op rfl (o_mv rfl) ?_
  have hb0 : 0 < (srt xs).length := by omega
  refine a_op rfl (o_ixo (j := 0) te34 tn3 rfl rfl rfl rfl (by omega)) ?_
  refine a_op rfl (o_ldp (el := intAV (srt xs)[0]) tg3 rfl rfl (mAt hb0) rfl) ?_
  refine a_if rfl (o_ge rfl rfl) (fun h3 => ?_) (fun h4 => ?_)
  · refine a_op rfl (o_mv rfl) ?_
    refine a_op rfl (o_mv rfl) ?_
    refine a_op rfl (o_mv rfl) ?_
    refine a_op rfl (o_len (q := xs.length) (j := xs.length) rfl (by simp [lenAV] <;> omega) rfl tl34) ?_
    refine a_op rfl (o_sub rfl rfl (by simp only [klo, khi]; omega)) ?_
    refine a_op rfl (o_ixo (j := xs.length - 1) te34 tn3 rfl rfl rfl (by omega) (by omega)) ?_
    refine a_op rfl (o_ldp (el := intAV (srt xs)[xs.length - 1]) tg3 rfl rfl (by rw [Nat.zero_add]; exact mAt (by omega)) rfl) ?_
    refine a_if rfl (o_le rfl rfl) (fun h5 => ?_) (fun h6 => ?_)
    · refine a_op rfl (o_pkt rfl rfl) ?_
      refine a_op rfl (o_mv rfl) ?_
      refine a_op rfl (o_mv rfl) ?_
      refine a_call rfl rfl rfl cb113 (compact_ok (xs := srt xs) (by rw [hs]; omega) (by omega) hs.symm).calls ?_
      rintro r H' ⟨rfl, rfl⟩
      refine a_op rfl (o_len (q := (Lib.compact (srt xs)).length) (j := (Lib.compact (srt xs)).length) rfl (by simp [lenAV] <;> omega) rfl tl34) ?_
      refine a_op rfl (o_mv rfl) ?_
      refine a_op rfl (o_len rfl rfl (by first | exact List.length_map .. | rfl) tl34) ?_
      refine a_op rfl (o_eq rfl rfl) ?_
      refine a_op rfl (o_pkt rfl rfl) ?_
      refine a_op rfl (o_pkf rfl rfl) ?_
      refine a_op rfl (o_as rfl) ?_
      refine a_nil ?_
      refine tq_n ?_
      refine awp_ret ?_
      refine r_one rfl ⟨rfl, trivial⟩ ?_
      exact rs_pur (by simp) (by rw [diff_end hb0]; simp [hs, *] <;> omega)
    refine a_op rfl (o_pkt rfl rfl) ?_
    refine a_op rfl (o_mv rfl) ?_
    refine a_off rfl ?_
    refine a_off rfl ?_
    refine a_off rfl ?_
    refine a_off rfl ?_
    refine a_off rfl ?_
    refine a_off rfl ?_
    refine a_op rfl (o_pkf rfl rfl) ?_
    refine a_op rfl (o_pkf rfl rfl) ?_
    refine a_op rfl (o_as rfl) ?_
    refine a_nil ?_
    refine tq_n ?_
    refine awp_ret ?_
    refine r_one rfl ⟨rfl, trivial⟩ ?_
    exact rs_pur (by simp) (by rw [diff_end hb0]; simp [hs, *] <;> omega)
  refine a_op rfl (o_mv rfl) ?_
  refine a_off rfl ?_
  refine a_off rfl ?_
  refine a_off rfl ?_
  refine a_off rfl ?_
  refine a_off rfl ?_
  refine a_off rfl ?_
  refine a_off rfl ?_
  refine a_op rfl (o_pkf rfl rfl) ?_
  refine a_op rfl (o_mv rfl) ?_
  refine a_off rfl ?_
  refine a_off rfl ?_
  refine a_off rfl ?_
  refine a_off rfl ?_
  refine a_off rfl ?_
  refine a_off rfl ?_
  refine a_op rfl (o_pkf rfl rfl) ?_
  refine a_op rfl (o_pkf rfl rfl) ?_
  refine a_op rfl (o_as rfl) ?_
  refine a_nil ?_
  refine tq_n ?_
  refine awp_ret ?_
  refine r_one rfl ⟨rfl, trivial⟩ ?_
  exact rs_pur (by simp) (by rw [diff_end hb0]; simp [hs, *] <;> omega)
end Go.Ab.S
namespace Go.Ab.S
open Go Go.Ab Go.Proofs
def badF (n : Nat) (x : FeedR) : Bool := decide (x.stk < -1 ∨ (n : Int) ≤ x.stk)
def wrongF (n : Nat) (l : List FeedR) : Int := if 2000 < l.length then 5 else if l.any (badF n) = true then 291 else if diffF (l.map (·.item)) = true then 0 else 291
def idsRow (l : List FeedR) (i : Nat) : List Int := (l.take i).map (·.item) ++ List.replicate (l.length - i) 0
theorem idsRow_len (l : List FeedR) (i : Nat) (h : i ≤ l.length) : (idsRow l i).length = l.length := by simp [idsRow]; omega
theorem idsRow_set (l : List FeedR) (i : Nat) (h : i < l.length) : ((idsRow l i).map intAV).set i (intAV l[i].item) = (idsRow l (i + 1)).map intAV := by
  rw [← List.map_set]
  congr 1
  have h1 : ((l.take i).map (·.item)).length = i := by simp; omega
  rw [idsRow, List.set_append_right _ _ (by omega), h1, Nat.sub_self, idsRow, List.take_succ_eq_append_getElem h, show l.length - i = (l.length - (i + 1)) + 1 by omega, List.replicate_succ, List.map_append, List.append_assoc]
  rfl
theorem idsRow_all (l : List FeedR) : idsRow l l.length = l.map (·.item) := by simp [idsRow]
theorem any_take {α : Type} {p : α → Bool} {l : List α} {i : Nat} (h : i < l.length) (h1 : (l.take i).any p = false) (h2 : p l[i] = false) : (l.take (i + 1)).any p = false := by
  rw [List.take_succ_eq_append_getElem h, List.any_append, h1]; simp [h2]
theorem any_hit {α : Type} {p : α → Bool} {l : List α} {i : Nat} (h : i < l.length) (h2 : p l[i] = true) : l.any p = true := List.any_eq_true.2 ⟨_, List.getElem_mem h, h2⟩

noncomputable def r77_0 : Array Oper := opsAt Try.f77 [0]
theorem r77_0_ok : dstOk 40 r77_0.toList = true ∧ r77_0.toList.all (fun o => noDefer o.op) = true := by decide +kernel
noncomputable def r77_1 : Array Oper := opsAt Try.f77 [1, 0, 0]
theorem r77_1_ok : dstOk 40 r77_1.toList = true ∧ r77_1.toList.all (fun o => noDefer o.op) = true := by decide +kernel
noncomputable def r77_2 : Array Oper := opsAt Try.f77 [1, 0, 1, 0, 0]
theorem r77_2_ok : dstOk 40 r77_2.toList = true ∧ r77_2.toList.all (fun o => noDefer o.op) = true := by decide +kernel
noncomputable def r77_3 : Array Oper := opsAt Try.f77 [1, 1, 0]
theorem r77_3_ok : dstOk 40 r77_3.toList = true ∧ r77_3.toList.all (fun o => noDefer o.op) = true := by decide +kernel
noncomputable def r77_4 : Array Oper := opsAt Try.f77 [1, 1, 1, 0, 0]
theorem r77_4_ok : dstOk 40 r77_4.toList = true ∧ r77_4.toList.all (fun o => noDefer o.op) = true := by decide +kernel
noncomputable def r77_5 : Array Oper := opsAt Try.f77 [1, 1, 1, 0, 1, 0, 0, 0]
theorem r77_5_ok : dstOk 40 r77_5.toList = true ∧ r77_5.toList.all (fun o => noDefer o.op) = true := by decide +kernel
noncomputable def r77_6 : Array Oper := opsAt Try.f77 [1, 1, 1, 0, 1, 0, 0, 1, 1, 0, 0, 0]
theorem r77_6_ok : dstOk 40 r77_6.toList = true ∧ r77_6.toList.all (fun o => noDefer o.op) = true := by decide +kernel
noncomputable def r77_7 : Array Oper := opsAt Try.f77 [1, 1, 1, 0, 1, 0, 0, 1, 1, 0, 0, 1, 0, 0]
theorem r77_7_ok : dstOk 40 r77_7.toList = true ∧ r77_7.toList.all (fun o => noDefer o.op) = true := by decide +kernel
noncomputable def r77_8 : Array Oper := opsAt Try.f77 [1, 1, 1, 0, 1, 0, 0, 1, 1, 0, 0, 1, 0, 1, 0, 0]
theorem r77_8_ok : dstOk 40 r77_8.toList = true ∧ r77_8.toList.all (fun o => noDefer o.op) = true := by decide +kernel
noncomputable def r77_9 : Array Oper := opsAt Try.f77 [1, 1, 1, 0, 1, 0, 0, 1, 1, 0, 0, 1, 1]
theorem r77_9_ok : dstOk 40 r77_9.toList = true ∧ r77_9.toList.all (fun o => noDefer o.op) = true := by decide +kernel
noncomputable def r77_10 : Array Oper := opsAt Try.f77 [1, 1, 1, 0, 1, 0, 0, 1, 1, 1]
theorem r77_10_ok : dstOk 40 r77_10.toList = true ∧ r77_10.toList.all (fun o => noDefer o.op) = true := by decide +kernel
noncomputable def b77_0 : Code := (.seq (.region 5 r77_5 false) (.seq (.cond (.tmp 17) .skip (.exit 0)) (.seq (.block 1 (.seq (.region 6 r77_6 false) (.seq (.seq (.region 7 r77_7 false) (.cond (.tmp 30) (.seq (.region 8 r77_8 false) .ret) .skip)) (.region 9 r77_9 false)))) (.region 10 r77_10 false))))
noncomputable def r77_11 : Array Oper := opsAt Try.f77 [1, 1, 1, 1, 0, 0]
theorem r77_11_ok : dstOk 40 r77_11.toList = true ∧ r77_11.toList.all (fun o => noDefer o.op) = true := by decide +kernel
noncomputable def r77_12 : Array Oper := opsAt Try.f77 [1, 1, 1, 1, 0, 1, 0, 0]
theorem r77_12_ok : dstOk 40 r77_12.toList = true ∧ r77_12.toList.all (fun o => noDefer o.op) = true := by decide +kernel
noncomputable def r77_13 : Array Oper := opsAt Try.f77 [1, 1, 1, 1, 1, 0]
theorem r77_13_ok : dstOk 40 r77_13.toList = true ∧ r77_13.toList.all (fun o => noDefer o.op) = true := by decide +kernel
noncomputable def c77 : Code := (.seq (.region 0 r77_0 false) (.seq (.seq (.region 1 r77_1 false) (.cond (.tmp 10) (.seq (.region 2 r77_2 false) .ret) .skip)) (.seq (.region 3 r77_3 false) (.seq (.seq (.region 4 r77_4 false) (.block 0 (.loop b77_0))) (.seq (.seq (.region 11 r77_11 false) (.cond (.tmp 39) (.seq (.region 12 r77_12 false) .ret) .skip)) (.seq (.region 13 r77_13 false) .ret))))))
theorem body77 : Try.f77.body = some c77 := by kernel_rfl
theorem wrong_ok (b : Fl) (cs : List Int) (hl : cs.length ≤ 4611686018427387904) (b2 : Fl) (l : List FeedR) (hl2 : l.length ≤ 4611686018427387904) : PureCall Try.prog GL 77 [.sl 1 b (cs.map intAV), .sl 2 b2 (l.map feedAV)] (.raw (.int .i64 (wrongF cs.length l))) := by
  refine pure_of_body Try.func77 body77 (Nat.le_of_ble_eq_true rfl) (by simp) (by simp) ?_
  refine w_keep [(0, .sl 1 b (cs.map intAV)), (1, .sl 2 b2 (l.map feedAV))] ⟨rfl, rfl, trivial⟩ ?_
  unfold c77
  refine awp_seq ?_
  refine w_reg (l := r77_0.toList) rfl r77_0_ok ?_
  refine a_op rfl (o_as rfl) ?_
  refine a_nil ?_
  refine tq_n ?_
  refine awp_seq ?_
  refine awp_seq ?_
  refine w_reg (l := r77_1.toList) rfl r77_1_ok ?_
  refine a_op rfl (o_mv rfl) ?_
  refine a_op rfl (o_len rfl rfl (by first | exact List.length_map .. | rfl) tl68) ?_
  refine a_if rfl (o_gt rfl rfl) (fun h1 => ?_) (fun h2 => ?_)
  · refine a_nil ?_
    refine tq_n ?_
    refine w_true rfl ?_
    refine awp_seq ?_
    refine w_reg (l := r77_2.toList) rfl r77_2_ok ?_
    refine a_op rfl (o_as rfl) ?_
    refine a_nil ?_
    refine tq_n ?_
    refine awp_ret ?_
    refine tq_r ?_
    refine r_one rfl ⟨rfl, trivial⟩ ?_
    exact rs_pur (by simp) (by rw [wrongF, if_pos (by omega)])
  refine a_nil ?_
  refine tq_n ?_
  refine w_false rfl ?_
  refine awp_skip ?_
  refine tq_n ?_
  refine awp_seq ?_
  refine w_reg (l := r77_3.toList) rfl r77_3_ok ?_
  refine a_op rfl (o_mv rfl) ?_
  refine a_op rfl (o_len rfl rfl (by first | exact List.length_map .. | rfl) tl68) ?_
  refine a_opH rfl (o_ms (N := 0) tE34 rfl rfl (by omega) (by omega) (by omega) (by omega) rfl rfl) (H' := [.vec 1 0 ((idsRow l 0).map intAV)]) (by simp [idsRow, intAV]) ?_
  rw [show ((l.length : Nat) : Int).toNat = l.length by omega]
  refine a_op rfl (o_as rfl) ?_
  refine a_nil ?_
  refine tq_n ?_
  refine awp_seq ?_
  refine awp_seq ?_
  refine w_reg (l := r77_4.toList) rfl r77_4_ok ?_
  refine a_op rfl (o_mv rfl) ?_
  refine a_op rfl (o_len rfl rfl (by first | exact List.length_map .. | rfl) tl68) ?_
  refine a_op rfl (o_mv rfl) ?_
  refine a_nil ?_
  refine tq_n ?_
  refine awp_block ?_
  refine w_loop (fun i : Nat => i ≤ l.length ∧ (l.take i).any (badF cs.length) = false) (fun i => [(0, .sl 1 b (cs.map intAV)), (1, .sl 2 b2 (l.map feedAV)), (4, .raw (.int .i64 0)), (5, .slo 0 0 0 l.length), (14, .sl 2 b2 (l.map feedAV)), (15, .raw (.int .i64 ((l.length : Nat) : Int))), (16, .raw (.int .i64 ((i : Nat) : Int)))]) (fun i => [.vec 1 0 ((idsRow l i).map intAV)]) (fun i => l.length - i) (0) ⟨by simp, by simp⟩ ⟨(by first | exact sub_int rfl (by omega) | rfl), (by first | exact sub_int rfl (by omega) | rfl), (by first | exact sub_int rfl (by omega) | rfl), (by first | exact sub_int rfl (by omega) | rfl), (by first | exact sub_int rfl (by omega) | rfl), (by first | exact sub_int rfl (by omega) | rfl), (by first | exact sub_int rfl (by omega) | rfl), trivial⟩ rfl ?_
  intro i ⟨hp, hq⟩
  unfold b77_0
  refine awp_seq ?_
  refine w_reg (l := r77_5.toList) rfl r77_5_ok ?_
  refine a_if rfl (o_lt rfl rfl) (fun h3 => ?_) (fun h4 => ?_)
  · refine a_nil ?_
    refine tq_n ?_
    refine awp_seq ?_
    refine w_true rfl ?_
    refine awp_skip ?_
    refine tq_n ?_
    refine awp_seq ?_
    refine awp_block ?_
    refine awp_seq ?_
    have hi : i < l.length := by omega
    refine w_reg (l := r77_6.toList) rfl r77_6_ok ?_
    refine a_op rfl (o_mv rfl) ?_
    refine a_op rfl (o_ix te68 tn75 rfl rfl rfl (ixm _ _ _ hi)) ?_
    refine a_op rfl ((by first | exact o_ldg tg75 tn75 rfl rfl | exact o_ldpg tg75 tn75 rfl rfl rfl rfl)) ?_
    refine a_op rfl (o_al (N := 1) tz75 rfl rfl rfl) ?_
    refine a_op rfl (o_as rfl) ?_
    refine a_op0 rfl (o_st (N := 1) tn75 rfl rfl rfl rfl rfl) ?_
    refine a_nil ?_
    refine tq_n ?_
    refine awp_seq ?_
    refine awp_seq ?_
    refine w_reg (l := r77_7.toList) rfl r77_7_ok ?_
    refine a_op rfl ((by first | exact o_fa tf75_1 rfl rfl | exact o_fap tf75_1 rfl rfl)) ?_
    refine a_op rfl ((by first | exact o_ld tg3 rfl rfl | exact o_ldp tg3 rfl rfl rfl rfl)) ?_
    refine a_if rfl (o_lt rfl rfl) (fun h5 => ?_) (fun h6 => ?_)
    · refine a_op rfl (o_mv rfl) ?_
      refine a_off rfl ?_
      refine a_off rfl ?_
      refine a_off rfl ?_
      refine a_off rfl ?_
      refine a_off rfl ?_
      refine a_op rfl (o_pkt rfl rfl) ?_
      refine a_nil ?_
      refine tq_n ?_
      refine w_true rfl ?_
      refine awp_seq ?_
      refine w_reg (l := r77_8.toList) rfl r77_8_ok ?_
      refine a_op rfl (o_as rfl) ?_
      refine a_nil ?_
      refine tq_n ?_
      refine awp_ret ?_
      refine tq_r ?_
      refine bq_r ?_
      refine tq_r ?_
      refine tq_r ?_
      refine bq_r ?_
      refine tq_r ?_
      refine r_one rfl ⟨rfl, trivial⟩ ?_
      exact rs_pur (by simp) (by rw [wrongF, if_neg (by omega), if_pos (any_hit hi (by simp [badF]; omega))])
    refine a_op rfl (o_mv rfl) ?_
    refine a_op rfl ((by first | exact o_fa tf75_1 rfl rfl | exact o_fap tf75_1 rfl rfl)) ?_
    refine a_op rfl ((by first | exact o_ld tg3 rfl rfl | exact o_ldp tg3 rfl rfl rfl rfl)) ?_
    refine a_op rfl (o_mv rfl) ?_
    refine a_op rfl (o_len rfl rfl (by first | exact List.length_map .. | rfl) tl34) ?_
    refine a_if rfl (o_ge rfl rfl) (fun h7 => ?_) (fun h8 => ?_)
    · refine a_op rfl (o_pkf rfl rfl) ?_
      refine a_nil ?_
      refine tq_n ?_
      refine w_true rfl ?_
      refine awp_seq ?_
      refine w_reg (l := r77_8.toList) rfl r77_8_ok ?_
      refine a_op rfl (o_as rfl) ?_
      refine a_nil ?_
      refine tq_n ?_
      refine awp_ret ?_
      refine tq_r ?_
      refine bq_r ?_
      refine tq_r ?_
      refine tq_r ?_
      refine bq_r ?_
      refine tq_r ?_
      refine r_one rfl ⟨rfl, trivial⟩ ?_
      exact rs_pur (by simp) (by rw [wrongF, if_neg (by omega), if_pos (any_hit hi (by simp [badF]; omega))])
    refine a_op rfl (o_pkf rfl rfl) ?_
    refine a_nil ?_
    refine tq_n ?_
    refine w_false rfl ?_
    refine awp_skip ?_
    refine tq_n ?_
    refine w_reg (l := r77_9.toList) rfl r77_9_ok ?_
    refine a_op rfl (o_mv rfl) ?_
    refine a_op rfl (o_mv rfl) ?_
    refine a_op rfl ((by first | exact o_fa tf75_0 rfl rfl | exact o_fap tf75_0 rfl rfl)) ?_
    refine a_op rfl ((by first | exact o_ld tg3 rfl rfl | exact o_ldp tg3 rfl rfl rfl rfl)) ?_
    refine a_op rfl (o_ixo (j := i) te34 tn3 rfl rfl rfl rfl (by omega)) ?_
    refine a_opH0 rfl (o_stp (N := 0) (el := intAV ((idsRow l i)[i]'(by rw [idsRow_len l i hp]; omega))) tn3 rfl rfl rfl rfl rfl (by rw [Nat.zero_add]; exact mAt _) rfl (Nat.le_refl _)) (H' := [.vec 1 0 ((idsRow l (i + 1)).map intAV), .var (feedAV l[i]).cells]) (by rw [Nat.zero_add, ← idsRow_set l i hi]; rfl) ?_
    refine a_nil ?_
    refine bq_n ?_
    refine tq_n ?_
    refine w_view [(0, .sl 1 b (cs.map intAV)), (1, .sl 2 b2 (l.map feedAV)), (4, .raw (.int .i64 0)), (5, .slo 0 0 0 l.length), (14, .sl 2 b2 (l.map feedAV)), (15, .raw (.int .i64 ((l.length : Nat) : Int))), (16, .raw (.int .i64 ((i : Nat) : Int)))] [.vec 1 0 ((idsRow l (i + 1)).map intAV)] 1 rfl (Nat.le_of_ble_eq_true rfl) (Nat.le_of_ble_eq_true rfl) ⟨⟨_, rfl, (by first | exact .sloK (Nat.le_of_ble_eq_true rfl) | exact .ptrK (Nat.le_of_ble_eq_true rfl) | exact rs_pur (by simp) rfl)⟩, ⟨_, rfl, (by first | exact .sloK (Nat.le_of_ble_eq_true rfl) | exact .ptrK (Nat.le_of_ble_eq_true rfl) | exact rs_pur (by simp) rfl)⟩, ⟨_, rfl, (by first | exact .sloK (Nat.le_of_ble_eq_true rfl) | exact .ptrK (Nat.le_of_ble_eq_true rfl) | exact rs_pur (by simp) rfl)⟩, ⟨_, rfl, (by first | exact .sloK (Nat.le_of_ble_eq_true rfl) | exact .ptrK (Nat.le_of_ble_eq_true rfl) | exact rs_pur (by simp) rfl)⟩, ⟨_, rfl, (by first | exact .sloK (Nat.le_of_ble_eq_true rfl) | exact .ptrK (Nat.le_of_ble_eq_true rfl) | exact rs_pur (by simp) rfl)⟩, ⟨_, rfl, (by first | exact .sloK (Nat.le_of_ble_eq_true rfl) | exact .ptrK (Nat.le_of_ble_eq_true rfl) | exact rs_pur (by simp) rfl)⟩, ⟨_, rfl, (by first | exact .sloK (Nat.le_of_ble_eq_true rfl) | exact .ptrK (Nat.le_of_ble_eq_true rfl) | exact rs_pur (by simp) rfl)⟩, trivial⟩ ⟨ors_vec (pu_int _), trivial⟩ ?_
    refine w_reg (l := r77_10.toList) rfl r77_10_ok ?_
    refine a_op rfl (o_add rfl rfl (by simp only [klo, khi]; omega)) ?_
    refine a_op rfl (o_mv rfl) ?_
    refine a_nil ?_
    refine tq_n ?_
    exact ⟨i + 1, ⟨⟨by omega, any_take hi hq (by simp [badF]; omega)⟩, by omega⟩, ⟨(by first | exact sub_int rfl (by omega) | rfl), (by first | exact sub_int rfl (by omega) | rfl), (by first | exact sub_int rfl (by omega) | rfl), (by first | exact sub_int rfl (by omega) | rfl), (by first | exact sub_int rfl (by omega) | rfl), (by first | exact sub_int rfl (by omega) | rfl), (by first | exact sub_int rfl (by omega) | rfl), trivial⟩, rfl⟩
  refine a_nil ?_
  refine tq_n ?_
  refine awp_seq ?_
  refine w_false rfl ?_
  refine awp_exit ?_
  refine tq_x ?_
  refine tq_x ?_
  refine bq_hit ?_
  refine tq_n ?_
  refine awp_seq ?_
  refine awp_seq ?_
  refine w_reg (l := r77_11.toList) rfl r77_11_ok ?_
  refine a_op rfl (o_mv rfl) ?_
  refine a_lend (vs' := [.sl 1 false ((l.map (·.item)).map intAV)]) rfl rfl rfl cb74 (different_ok _ _ (by simp; omega)) ⟨rs_slo id rfl (by rw [List.length_map, idsRow_len _ _ hp]) (pu_int _) (by rw [show i = l.length by omega, idsRow_all]), trivial⟩ (by simp) ?_
  refine a_ifb rfl (o_nt rfl) (fun h9 => ?_) (fun h10 => ?_)
  · refine a_nil ?_
    refine tq_n ?_
    refine w_true rfl ?_
    refine awp_seq ?_
    refine w_reg (l := r77_12.toList) rfl r77_12_ok ?_
    refine a_op rfl (o_as rfl) ?_
    refine a_nil ?_
    refine tq_n ?_
    refine awp_ret ?_
    refine tq_r ?_
    refine r_one rfl ⟨rfl, trivial⟩ ?_
    rw [show i = l.length by omega, List.take_length] at hq
    exact rs_pur (by simp) (by rw [wrongF, if_neg (by omega), hq]; simp_all)
  refine a_nil ?_
  refine tq_n ?_
  refine w_false rfl ?_
  refine awp_skip ?_
  refine tq_n ?_
  refine awp_seq ?_
  refine w_reg (l := r77_13.toList) rfl r77_13_ok ?_
  refine a_op rfl (o_as rfl) ?_
  refine a_nil ?_
  refine tq_n ?_
  refine awp_ret ?_
  refine r_one rfl ⟨rfl, trivial⟩ ?_
  rw [show i = l.length by omega, List.take_length] at hq
  exact rs_pur (by simp) (by rw [wrongF, if_neg (by omega), hq]; simp_all)

def needStep (cs : List Int) (s : List Int × Int) (x : FeedR) : List Int × Int :=
  if x.stk < 0 then s else if cs.getD x.stk.toNat 0 < s.1.getD x.stk.toNat 0 + 1 then (s.1.set x.stk.toNat 1, s.2 + 1) else (s.1.set x.stk.toNat (s.1.getD x.stk.toNat 0 + 1), s.2)
def needS (cs : List Int) (l : List FeedR) (i : Nat) : List Int × Int := (l.take i).foldl (needStep cs) (List.replicate cs.length 0, 0)
def needN (cs : List Int) (l : List FeedR) : Int := (needS cs l l.length).2
theorem needS_succ {cs : List Int} {l : List FeedR} {i : Nat} (h : i < l.length) : needS cs l (i + 1) = needStep cs (needS cs l i) l[i] := by
  unfold needS; rw [List.take_succ_eq_append_getElem h, List.foldl_append]; rfl
theorem mem_set_or {α : Type} {l : List α} {k : Nat} {a x : α} (h : x ∈ l.set k a) : x ∈ l ∨ x = a := List.mem_or_eq_of_mem_set h
theorem getD_mem0 {l : List Int} {k : Nat} : l.getD k 0 = 0 ∨ l.getD k 0 ∈ l := by
  rw [List.getD_eq_getElem?_getD]
  cases h : l[k]? with
  | none => exact .inl rfl
  | some x => exact .inr (List.mem_of_getElem? h)
theorem needS_inv (cs : List Int) (l : List FeedR) : ∀ i, i ≤ l.length → (needS cs l i).1.length = cs.length ∧ (∀ v ∈ (needS cs l i).1, 0 ≤ v ∧ v ≤ i) ∧ 0 ≤ (needS cs l i).2 ∧ (needS cs l i).2 ≤ i
  | 0, _ => by simp [needS]
  | i + 1, h => by
    obtain ⟨h1, h2, h3, h4⟩ := needS_inv cs l i (by omega)
    rw [needS_succ (by omega)]
    have h5 : 0 ≤ (needS cs l i).1.getD (l[i].stk.toNat) 0 ∧ (needS cs l i).1.getD (l[i].stk.toNat) 0 ≤ i := by
      rcases getD_mem0 (l := (needS cs l i).1) (k := l[i].stk.toNat) with h | h
      · omega
      · exact h2 _ h
    unfold needStep
    split
    · exact ⟨h1, fun v hv => by have := h2 v hv; omega, h3, by omega⟩
    · split
      · refine ⟨by simpa using h1, fun v hv => ?_, by dsimp only; omega, by dsimp only; omega⟩
        rcases mem_set_or hv with hv | rfl
        · have := h2 v hv; omega
        · omega
      · refine ⟨by simpa using h1, fun v hv => ?_, h3, by dsimp only; omega⟩
        rcases mem_set_or hv with hv | rfl
        · have := h2 v hv; omega
        · omega
def needF (cs : List Int) (l : List FeedR) : Int × Int := if rightF cs = true then if wrongF cs.length l = 0 then (needN cs l, 0) else (0, wrongF cs.length l) else (0, 290)
theorem wrongF_in {n : Nat} {l : List FeedR} (h : wrongF n l = 0) : l.length ≤ 2000 ∧ (∀ x ∈ l, -1 ≤ x.stk ∧ x.stk < n) ∧ diffF (l.map (·.item)) = true := by
  unfold wrongF at h
  split at h
  · omega
  · split at h
    · omega
    · split at h
      · rename_i h1 h2 h3
        refine ⟨by omega, fun x hx => ?_, h3⟩
        have h4 := fun h => h2 (List.any_eq_true.2 ⟨x, hx, h⟩)
        simp [badF] at h4
        omega
      · omega
theorem getDi {l : List Int} {k : Nat} (h : k < l.length) : l.getD k 0 = l[k] := by simp [h]
theorem set_set2 {l : List Int} {k : Nat} {a c : Int} : (l.set k a).set k c = l.set k c := List.set_set ..

noncomputable def r33_0 : Array Oper := opsAt Try.f33 [0]
theorem r33_0_ok : dstOk 58 r33_0.toList = true ∧ r33_0.toList.all (fun o => noDefer o.op) = true := by decide +kernel
noncomputable def r33_1 : Array Oper := opsAt Try.f33 [1, 0, 0]
theorem r33_1_ok : dstOk 58 r33_1.toList = true ∧ r33_1.toList.all (fun o => noDefer o.op) = true := by decide +kernel
noncomputable def r33_2 : Array Oper := opsAt Try.f33 [1, 0, 1, 0, 0]
theorem r33_2_ok : dstOk 58 r33_2.toList = true ∧ r33_2.toList.all (fun o => noDefer o.op) = true := by decide +kernel
noncomputable def r33_3 : Array Oper := opsAt Try.f33 [1, 1, 0, 0]
theorem r33_3_ok : dstOk 58 r33_3.toList = true ∧ r33_3.toList.all (fun o => noDefer o.op) = true := by decide +kernel
noncomputable def r33_4 : Array Oper := opsAt Try.f33 [1, 1, 0, 1, 0]
theorem r33_4_ok : dstOk 58 r33_4.toList = true ∧ r33_4.toList.all (fun o => noDefer o.op) = true := by decide +kernel
noncomputable def r33_5 : Array Oper := opsAt Try.f33 [1, 1, 0, 1, 1, 0, 0]
theorem r33_5_ok : dstOk 58 r33_5.toList = true ∧ r33_5.toList.all (fun o => noDefer o.op) = true := by decide +kernel
noncomputable def r33_6 : Array Oper := opsAt Try.f33 [1, 1, 1, 0]
theorem r33_6_ok : dstOk 58 r33_6.toList = true ∧ r33_6.toList.all (fun o => noDefer o.op) = true := by decide +kernel
noncomputable def r33_7 : Array Oper := opsAt Try.f33 [1, 1, 1, 1, 0, 0]
theorem r33_7_ok : dstOk 58 r33_7.toList = true ∧ r33_7.toList.all (fun o => noDefer o.op) = true := by decide +kernel
noncomputable def r33_8 : Array Oper := opsAt Try.f33 [1, 1, 1, 1, 0, 1, 0, 0, 0]
theorem r33_8_ok : dstOk 58 r33_8.toList = true ∧ r33_8.toList.all (fun o => noDefer o.op) = true := by decide +kernel
noncomputable def r33_9 : Array Oper := opsAt Try.f33 [1, 1, 1, 1, 0, 1, 0, 0, 1, 1, 0, 0, 0]
theorem r33_9_ok : dstOk 58 r33_9.toList = true ∧ r33_9.toList.all (fun o => noDefer o.op) = true := by decide +kernel
noncomputable def r33_10 : Array Oper := opsAt Try.f33 [1, 1, 1, 1, 0, 1, 0, 0, 1, 1, 0, 0, 1, 0, 0]
theorem r33_10_ok : dstOk 58 r33_10.toList = true ∧ r33_10.toList.all (fun o => noDefer o.op) = true := by decide +kernel
noncomputable def r33_11 : Array Oper := opsAt Try.f33 [1, 1, 1, 1, 0, 1, 0, 0, 1, 1, 0, 0, 1, 1, 0]
theorem r33_11_ok : dstOk 58 r33_11.toList = true ∧ r33_11.toList.all (fun o => noDefer o.op) = true := by decide +kernel
noncomputable def r33_12 : Array Oper := opsAt Try.f33 [1, 1, 1, 1, 0, 1, 0, 0, 1, 1, 0, 0, 1, 1, 1, 0]
theorem r33_12_ok : dstOk 58 r33_12.toList = true ∧ r33_12.toList.all (fun o => noDefer o.op) = true := by decide +kernel
noncomputable def r33_13 : Array Oper := opsAt Try.f33 [1, 1, 1, 1, 0, 1, 0, 0, 1, 1, 0, 0, 1, 1, 1, 1, 0, 0]
theorem r33_13_ok : dstOk 58 r33_13.toList = true ∧ r33_13.toList.all (fun o => noDefer o.op) = true := by decide +kernel
noncomputable def r33_14 : Array Oper := opsAt Try.f33 [1, 1, 1, 1, 0, 1, 0, 0, 1, 1, 0, 0, 1, 1, 1, 1, 0, 1]
theorem r33_14_ok : dstOk 58 r33_14.toList = true ∧ r33_14.toList.all (fun o => noDefer o.op) = true := by decide +kernel
noncomputable def r33_15 : Array Oper := opsAt Try.f33 [1, 1, 1, 1, 0, 1, 0, 0, 1, 1, 1]
theorem r33_15_ok : dstOk 58 r33_15.toList = true ∧ r33_15.toList.all (fun o => noDefer o.op) = true := by decide +kernel
noncomputable def b33_0 : Code := (.seq (.region 8 r33_8 false) (.seq (.cond (.tmp 26) .skip (.exit 0)) (.seq (.block 1 (.seq (.region 9 r33_9 false) (.seq (.seq (.region 10 r33_10 false) (.cond (.tmp 31) (.exit 1) .skip)) (.seq (.region 11 r33_11 false) (.seq (.region 12 r33_12 true) (.cond (.tmp 49) (.seq (.region 13 r33_13 false) (.region 14 r33_14 false)) .skip)))))) (.region 15 r33_15 false))))
noncomputable def r33_16 : Array Oper := opsAt Try.f33 [1, 1, 1, 1, 1, 0]
theorem r33_16_ok : dstOk 58 r33_16.toList = true ∧ r33_16.toList.all (fun o => noDefer o.op) = true := by decide +kernel
noncomputable def c33 : Code := (.seq (.region 0 r33_0 false) (.seq (.seq (.region 1 r33_1 false) (.cond (.tmp 13) (.seq (.region 2 r33_2 false) .ret) .skip)) (.seq (.seq (.region 3 r33_3 false) (.seq (.region 4 r33_4 false) (.cond (.tmp 18) (.seq (.region 5 r33_5 false) .ret) .skip))) (.seq (.region 6 r33_6 false) (.seq (.seq (.region 7 r33_7 false) (.block 0 (.loop b33_0))) (.seq (.region 16 r33_16 false) .ret))))))
theorem body33 : Try.f33.body = some c33 := by kernel_rfl
theorem need_ok (b : Fl) (cs : List Int) (hl : cs.length ≤ 4611686018427387904) (b2 : Fl) (l : List FeedR) (hl2 : l.length ≤ 4611686018427387904) : PureCall Try.prog GL 33 [.sl 1 b (cs.map intAV), .sl 2 b2 (l.map feedAV)] (.tup [.raw (.int .i64 ((needF cs l).1)), .raw (.int .i64 ((needF cs l).2))]) := by
  refine pure_of_body Try.func33 body33 (Nat.le_of_ble_eq_true rfl) (by simp) (by simp) ?_
  refine w_keep [(0, .sl 1 b (cs.map intAV)), (1, .sl 2 b2 (l.map feedAV))] ⟨rfl, rfl, trivial⟩ ?_
  unfold c33
  refine awp_seq ?_
  refine w_reg (l := r33_0.toList) rfl r33_0_ok ?_
  refine a_op rfl (o_as rfl) ?_
  refine a_op rfl (o_as rfl) ?_
  refine a_nil ?_
  refine tq_n ?_
  refine awp_seq ?_
  refine awp_seq ?_
  refine w_reg (l := r33_1.toList) rfl r33_1_ok ?_
  refine a_op rfl (o_mv rfl) ?_
  refine a_pureb rfl rfl rfl cb76 (right_ok _ _ (by omega)) (fun h1 => ?_) (fun h2 => ?_)
  · refine a_op rfl (o_ntt rfl) ?_
    refine a_nil ?_
    refine tq_n ?_
    refine w_false rfl ?_
    refine awp_skip ?_
    refine tq_n ?_
    refine awp_seq ?_
    refine awp_seq ?_
    refine w_reg (l := r33_3.toList) rfl r33_3_ok ?_
    refine a_op rfl (o_mv rfl) ?_
    refine a_op rfl (o_mv rfl) ?_
    refine a_pure rfl rfl rfl cb77 (wrong_ok _ _ (by omega) _ _ (by omega)) ?_
    refine a_op rfl (o_as rfl) ?_
    refine a_nil ?_
    refine tq_n ?_
    refine awp_seq ?_
    refine w_reg (l := r33_4.toList) rfl r33_4_ok ?_
    refine a_op rfl (o_mv rfl) ?_
    refine a_if rfl (o_ne rfl rfl) (fun h3 => ?_) (fun h4 => ?_)
    · refine a_nil ?_
      refine tq_n ?_
      refine w_true rfl ?_
      refine awp_seq ?_
      refine w_reg (l := r33_5.toList) rfl r33_5_ok ?_
      refine a_op rfl (o_mv rfl) ?_
      refine a_op rfl (o_as rfl) ?_
      refine a_op rfl (o_as rfl) ?_
      refine a_nil ?_
      refine tq_n ?_
      refine awp_ret ?_
      refine tq_r ?_
      refine r_tup (xs := []) rfl ⟨rfl, rfl, trivial⟩ ?_
      exact rs_tup ⟨rs_pur (by simp) (by simp_all [needF]), rs_pur (by simp) (by simp_all [needF]), trivial⟩
    refine a_nil ?_
    refine tq_n ?_
    refine w_false rfl ?_
    refine awp_skip ?_
    refine tq_n ?_
    refine awp_seq ?_
    have hrt : cs.length ≤ 64 := by
      have : rightF cs = true := by assumption
      simp [rightF] at this; omega
    have hw0 : wrongF cs.length l = 0 := by omega
    obtain ⟨hl3, hin, hdf⟩ := wrongF_in hw0
    refine w_reg (l := r33_6.toList) rfl r33_6_ok ?_
    refine a_op rfl (o_mv rfl) ?_
    refine a_op rfl (o_len rfl rfl (by first | exact List.length_map .. | rfl) tl34) ?_
    refine a_opH rfl (o_ms (N := 0) tE34 rfl rfl (by omega) (by omega) (by omega) (by omega) rfl rfl) (H' := [.vec 1 0 ((needS cs l 0).1.map intAV)]) (by simp [needS, intAV]) ?_
    rw [show ((cs.length : Nat) : Int).toNat = cs.length by omega]
    refine a_op rfl (o_as rfl) ?_
    refine a_op rfl (o_as rfl) ?_
    refine a_nil ?_
    refine tq_n ?_
    refine awp_seq ?_
    refine awp_seq ?_
    refine w_reg (l := r33_7.toList) rfl r33_7_ok ?_
    refine a_op rfl (o_mv rfl) ?_
    refine a_op rfl (o_len rfl rfl (by first | exact List.length_map .. | rfl) tl68) ?_
    refine a_op rfl (o_mv rfl) ?_
    refine a_nil ?_
    refine tq_n ?_
    refine awp_block ?_
    refine w_loop (fun i : Nat => i ≤ l.length) (fun i => [(0, .sl 1 b (cs.map intAV)), (1, .sl 2 b2 (l.map feedAV)), (4, .raw (.int .i64 0)), (5, .raw (.int .i64 0)), (7, .slo 0 0 0 cs.length), (8, .raw (.int .i64 ((needS cs l i).2))), (23, .sl 2 b2 (l.map feedAV)), (24, .raw (.int .i64 ((l.length : Nat) : Int))), (25, .raw (.int .i64 ((i : Nat) : Int)))]) (fun i => [.vec 1 0 ((needS cs l i).1.map intAV)]) (fun i => l.length - i) (0) (by simp) ⟨(by first | exact sub_int rfl (by omega) | rfl | exact sub_int rfl (by rw [hst]) | exact sub_int rfl (by simp [needS])), (by first | exact sub_int rfl (by omega) | rfl | exact sub_int rfl (by rw [hst]) | exact sub_int rfl (by simp [needS])), (by first | exact sub_int rfl (by omega) | rfl | exact sub_int rfl (by rw [hst]) | exact sub_int rfl (by simp [needS])), (by first | exact sub_int rfl (by omega) | rfl | exact sub_int rfl (by rw [hst]) | exact sub_int rfl (by simp [needS])), (by first | exact sub_int rfl (by omega) | rfl | exact sub_int rfl (by rw [hst]) | exact sub_int rfl (by simp [needS])), (by first | exact sub_int rfl (by omega) | rfl | exact sub_int rfl (by rw [hst]) | exact sub_int rfl (by simp [needS])), (by first | exact sub_int rfl (by omega) | rfl | exact sub_int rfl (by rw [hst]) | exact sub_int rfl (by simp [needS])), (by first | exact sub_int rfl (by omega) | rfl | exact sub_int rfl (by rw [hst]) | exact sub_int rfl (by simp [needS])), (by first | exact sub_int rfl (by omega) | rfl | exact sub_int rfl (by rw [hst]) | exact sub_int rfl (by simp [needS])), trivial⟩ rfl ?_
    intro i hp
    obtain ⟨hi1, hi2, hi3, hi4⟩ := needS_inv cs l i hp
    unfold b33_0
    refine awp_seq ?_
    refine w_reg (l := r33_8.toList) rfl r33_8_ok ?_
    refine a_if rfl (o_lt rfl rfl) (fun h5 => ?_) (fun h6 => ?_)
    · refine a_nil ?_
      refine tq_n ?_
      refine awp_seq ?_
      refine w_true rfl ?_
      refine awp_skip ?_
      refine tq_n ?_
      refine awp_seq ?_
      refine awp_block ?_
      refine awp_seq ?_
      have hi : i < l.length := by omega
      have hxi := hin _ (List.getElem_mem hi)
      refine w_reg (l := r33_9.toList) rfl r33_9_ok ?_
      refine a_op rfl (o_ix te68 tn75 rfl rfl rfl (ixm _ _ _ hi)) ?_
      refine a_op rfl ((by first | exact o_ldg tg75 tn75 rfl rfl | exact o_ldpg tg75 tn75 rfl rfl rfl rfl)) ?_
      refine a_op rfl (o_al (N := 1) tz75 rfl rfl rfl) ?_
      refine a_op0 rfl (o_st (N := 1) tn75 rfl rfl rfl rfl rfl) ?_
      refine a_nil ?_
      refine tq_n ?_
      refine awp_seq ?_
      refine awp_seq ?_
      refine w_reg (l := r33_10.toList) rfl r33_10_ok ?_
      refine a_op rfl ((by first | exact o_fa tf75_1 rfl rfl | exact o_fap tf75_1 rfl rfl)) ?_
      refine a_op rfl ((by first | exact o_ld tg3 rfl rfl | exact o_ldp tg3 rfl rfl rfl rfl)) ?_
      refine a_if rfl (o_lt rfl rfl) (fun h7 => ?_) (fun h8 => ?_)
      · refine a_nil ?_
        refine tq_n ?_
        refine w_true rfl ?_
        refine awp_exit ?_
        refine tq_x ?_
        refine bq_hit ?_
        refine tq_n ?_
        refine w_view [(0, .sl 1 b (cs.map intAV)), (1, .sl 2 b2 (l.map feedAV)), (4, .raw (.int .i64 0)), (5, .raw (.int .i64 0)), (7, .slo 0 0 0 cs.length), (8, .raw (.int .i64 ((needS cs l i).2))), (23, .sl 2 b2 (l.map feedAV)), (24, .raw (.int .i64 ((l.length : Nat) : Int))), (25, .raw (.int .i64 ((i : Nat) : Int)))] [.vec 1 0 (((needS cs l i).1).map intAV)] 1 rfl (Nat.le_of_ble_eq_true rfl) (Nat.le_of_ble_eq_true rfl) ⟨⟨_, rfl, (by first | exact .sloK (Nat.le_of_ble_eq_true rfl) | exact .ptrK (Nat.le_of_ble_eq_true rfl) | exact rs_pur (by simp) rfl)⟩, ⟨_, rfl, (by first | exact .sloK (Nat.le_of_ble_eq_true rfl) | exact .ptrK (Nat.le_of_ble_eq_true rfl) | exact rs_pur (by simp) rfl)⟩, ⟨_, rfl, (by first | exact .sloK (Nat.le_of_ble_eq_true rfl) | exact .ptrK (Nat.le_of_ble_eq_true rfl) | exact rs_pur (by simp) rfl)⟩, ⟨_, rfl, (by first | exact .sloK (Nat.le_of_ble_eq_true rfl) | exact .ptrK (Nat.le_of_ble_eq_true rfl) | exact rs_pur (by simp) rfl)⟩, ⟨_, rfl, (by first | exact .sloK (Nat.le_of_ble_eq_true rfl) | exact .ptrK (Nat.le_of_ble_eq_true rfl) | exact rs_pur (by simp) rfl)⟩, ⟨_, rfl, (by first | exact .sloK (Nat.le_of_ble_eq_true rfl) | exact .ptrK (Nat.le_of_ble_eq_true rfl) | exact rs_pur (by simp) rfl)⟩, ⟨_, rfl, (by first | exact .sloK (Nat.le_of_ble_eq_true rfl) | exact .ptrK (Nat.le_of_ble_eq_true rfl) | exact rs_pur (by simp) rfl)⟩, ⟨_, rfl, (by first | exact .sloK (Nat.le_of_ble_eq_true rfl) | exact .ptrK (Nat.le_of_ble_eq_true rfl) | exact rs_pur (by simp) rfl)⟩, ⟨_, rfl, (by first | exact .sloK (Nat.le_of_ble_eq_true rfl) | exact .ptrK (Nat.le_of_ble_eq_true rfl) | exact rs_pur (by simp) rfl)⟩, trivial⟩ ⟨ors_vec (pu_int _), trivial⟩ ?_
        refine w_reg (l := r33_15.toList) rfl r33_15_ok ?_
        refine a_op rfl (o_add rfl rfl (by simp only [klo, khi]; omega)) ?_
        refine a_op rfl (o_mv rfl) ?_
        refine a_nil ?_
        refine tq_n ?_
        have hst : needS cs l (i + 1) = needS cs l i := by rw [needS_succ hi, needStep, if_pos (by omega)]
        exact ⟨i + 1, ⟨by omega, by omega⟩, ⟨(by first | exact sub_int rfl (by omega) | rfl | exact sub_int rfl (by rw [hst]) | exact sub_int rfl (by simp [needS])), (by first | exact sub_int rfl (by omega) | rfl | exact sub_int rfl (by rw [hst]) | exact sub_int rfl (by simp [needS])), (by first | exact sub_int rfl (by omega) | rfl | exact sub_int rfl (by rw [hst]) | exact sub_int rfl (by simp [needS])), (by first | exact sub_int rfl (by omega) | rfl | exact sub_int rfl (by rw [hst]) | exact sub_int rfl (by simp [needS])), (by first | exact sub_int rfl (by omega) | rfl | exact sub_int rfl (by rw [hst]) | exact sub_int rfl (by simp [needS])), (by first | exact sub_int rfl (by omega) | rfl | exact sub_int rfl (by rw [hst]) | exact sub_int rfl (by simp [needS])), (by first | exact sub_int rfl (by omega) | rfl | exact sub_int rfl (by rw [hst]) | exact sub_int rfl (by simp [needS])), (by first | exact sub_int rfl (by omega) | rfl | exact sub_int rfl (by rw [hst]) | exact sub_int rfl (by simp [needS])), (by first | exact sub_int rfl (by omega) | rfl | exact sub_int rfl (by rw [hst]) | exact sub_int rfl (by simp [needS])), trivial⟩, by rw [hst]⟩
      refine a_nil ?_
      refine tq_n ?_
      refine w_false rfl ?_
      refine awp_skip ?_
      refine tq_n ?_
      refine awp_seq ?_
      obtain ⟨k, hk⟩ : ∃ k : Nat, l[i].stk = k := ⟨l[i].stk.toNat, by omega⟩
      have hkc : k < cs.length := by omega
      have hkm : k < (needS cs l i).1.length := by omega
      have hv := hi2 _ (List.getElem_mem hkm)
      refine w_reg (l := r33_11.toList) rfl r33_11_ok ?_
      refine a_op rfl (o_mv rfl) ?_
      refine a_op rfl ((by first | exact o_fa tf75_1 rfl rfl | exact o_fap tf75_1 rfl rfl)) ?_
      refine a_op rfl ((by first | exact o_ld tg3 rfl rfl | exact o_ldp tg3 rfl rfl rfl rfl)) ?_
      refine a_op rfl (o_ixo (j := k) te34 tn3 rfl rfl rfl hk hkc) ?_
      refine a_op rfl (o_ldp (el := intAV (needS cs l i).1[k]) tg3 rfl rfl (by rw [Nat.zero_add]; exact mAt hkm) rfl) ?_
      refine a_op rfl (o_add rfl rfl (by simp only [klo, khi]; omega)) ?_
      refine a_op rfl (o_ixo (j := k) te34 tn3 rfl rfl rfl hk hkc) ?_
      refine a_opH0 rfl (o_stp (N := 0) (el := intAV (((needS cs l i).1)[k]'(by first | omega | (simp; omega)))) tn3 rfl rfl rfl rfl rfl (by rw [Nat.zero_add]; exact mAt _) rfl (Nat.le_refl _)) (H' := [.vec 1 0 ((((needS cs l i).1).set k ((needS cs l i).1[k] + 1)).map intAV), .var (feedAV l[i]).cells]) (by rw [Nat.zero_add]; exact congrArg (fun r => [AObj.vec 1 0 r, .var (feedAV l[i]).cells]) List.map_set.symm) ?_
      refine a_nil ?_
      refine tq_n ?_
      refine awp_seq ?_
      have hks : k < ((needS cs l i).1.set k ((needS cs l i).1[k] + 1)).length := by simp; omega
      have hksv : ((needS cs l i).1.set k ((needS cs l i).1[k] + 1))[k] = (needS cs l i).1[k] + 1 := by simp
      refine awp_draw ⟨[[], [], [1], [0, 1, 2], [0, 1, 2, 3], [], [], [6], [5, 6, 7], [5, 6, 7, 8], [0, 1, 2, 3, 4, 5, 6, 7, 8, 9]], [[7], [10], [40], [39, 41], [42], [0], [10], [45], [44, 46], [47], [43, 48]], [[], [], [1], [0], [0], [], [], [1], [], [], []], [none, none, none, none, none, none, none, none, none, none, none]⟩ mo r33_12_ok (by decide +kernel) (l := r33_12.toList) rfl ?_
      refine d_op rfl rfl rfl (fun _ => o_mv rfl) ?_
      refine d_op rfl rfl rfl (fun _ => (by first | exact o_fa tf75_1 rfl rfl | exact o_fap tf75_1 rfl rfl)) ?_
      refine d_op rfl rfl rfl (fun _ => (by first | exact o_ld tg3 rfl rfl | exact o_ldp tg3 rfl rfl rfl rfl)) ?_
      refine d_op rfl rfl rfl (fun _ => o_ixo (j := k) te34 tn3 rfl rfl rfl hk hkc) ?_
      refine d_op rfl rfl rfl (fun _ => o_ldp (el := intAV ((needS cs l i).1[k] + 1)) tg3 rfl rfl (by rw [Nat.zero_add, mAt hks, hksv]) rfl) ?_
      refine d_op rfl rfl rfl (fun _ => o_mv rfl) ?_
      refine d_op rfl rfl rfl (fun _ => (by first | exact o_fa tf75_1 rfl rfl | exact o_fap tf75_1 rfl rfl)) ?_
      refine d_op rfl rfl rfl (fun _ => (by first | exact o_ld tg3 rfl rfl | exact o_ldp tg3 rfl rfl rfl rfl)) ?_
      refine d_op rfl rfl rfl (fun _ => o_ix te34 tn3 rfl rfl hk (ixm _ _ _ hkc)) ?_
      refine d_op rfl rfl rfl (fun _ => (by first | exact o_ld tg3 rfl rfl | exact o_ldp tg3 rfl rfl rfl rfl)) ?_
      refine d_if rfl rfl rfl (fun _ => o_gt rfl rfl) (fun h9 => ?_) (fun h10 => ?_)
      · refine d_nil ?_
        refine tq_n ?_
        refine w_true rfl ?_
        refine awp_seq ?_
        refine w_reg (l := r33_13.toList) rfl r33_13_ok ?_
        refine a_op rfl (o_mv rfl) ?_
        refine a_op rfl ((by first | exact o_fa tf75_1 rfl rfl | exact o_fap tf75_1 rfl rfl)) ?_
        refine a_op rfl ((by first | exact o_ld tg3 rfl rfl | exact o_ldp tg3 rfl rfl rfl rfl)) ?_
        refine a_op rfl (o_ixo (j := k) te34 tn3 rfl rfl rfl hk hkc) ?_
        refine a_opH0 rfl (o_stp (N := 0) (el := intAV ((((needS cs l i).1).set k ((needS cs l i).1[k] + 1))[k]'(by first | omega | (simp; omega)))) tn3 rfl rfl rfl rfl rfl (by rw [Nat.zero_add]; exact mAt _) rfl (Nat.le_refl _)) (H' := [.vec 1 0 (((((needS cs l i).1).set k ((needS cs l i).1[k] + 1)).set k (1)).map intAV), .var (feedAV l[i]).cells]) (by rw [Nat.zero_add]; exact congrArg (fun r => [AObj.vec 1 0 r, .var (feedAV l[i]).cells]) List.map_set.symm) ?_
        refine a_nil ?_
        refine tq_n ?_
        refine w_reg (l := r33_14.toList) rfl r33_14_ok ?_
        refine a_op rfl (o_mv rfl) ?_
        refine a_op rfl (o_add rfl rfl (by simp only [klo, khi]; omega)) ?_
        refine a_op rfl (o_as rfl) ?_
        refine a_nil ?_
        refine bq_n ?_
        refine tq_n ?_
        refine w_view [(0, .sl 1 b (cs.map intAV)), (1, .sl 2 b2 (l.map feedAV)), (4, .raw (.int .i64 0)), (5, .raw (.int .i64 0)), (7, .slo 0 0 0 cs.length), (8, .raw (.int .i64 ((needS cs l i).2 + 1))), (23, .sl 2 b2 (l.map feedAV)), (24, .raw (.int .i64 ((l.length : Nat) : Int))), (25, .raw (.int .i64 ((i : Nat) : Int)))] [.vec 1 0 (((((needS cs l i).1).set k ((needS cs l i).1[k] + 1)).set k 1).map intAV)] 1 rfl (Nat.le_of_ble_eq_true rfl) (Nat.le_of_ble_eq_true rfl) ⟨⟨_, rfl, (by first | exact .sloK (Nat.le_of_ble_eq_true rfl) | exact .ptrK (Nat.le_of_ble_eq_true rfl) | exact rs_pur (by simp) rfl)⟩, ⟨_, rfl, (by first | exact .sloK (Nat.le_of_ble_eq_true rfl) | exact .ptrK (Nat.le_of_ble_eq_true rfl) | exact rs_pur (by simp) rfl)⟩, ⟨_, rfl, (by first | exact .sloK (Nat.le_of_ble_eq_true rfl) | exact .ptrK (Nat.le_of_ble_eq_true rfl) | exact rs_pur (by simp) rfl)⟩, ⟨_, rfl, (by first | exact .sloK (Nat.le_of_ble_eq_true rfl) | exact .ptrK (Nat.le_of_ble_eq_true rfl) | exact rs_pur (by simp) rfl)⟩, ⟨_, rfl, (by first | exact .sloK (Nat.le_of_ble_eq_true rfl) | exact .ptrK (Nat.le_of_ble_eq_true rfl) | exact rs_pur (by simp) rfl)⟩, ⟨_, rfl, (by first | exact .sloK (Nat.le_of_ble_eq_true rfl) | exact .ptrK (Nat.le_of_ble_eq_true rfl) | exact rs_pur (by simp) rfl)⟩, ⟨_, rfl, (by first | exact .sloK (Nat.le_of_ble_eq_true rfl) | exact .ptrK (Nat.le_of_ble_eq_true rfl) | exact rs_pur (by simp) rfl)⟩, ⟨_, rfl, (by first | exact .sloK (Nat.le_of_ble_eq_true rfl) | exact .ptrK (Nat.le_of_ble_eq_true rfl) | exact rs_pur (by simp) rfl)⟩, ⟨_, rfl, (by first | exact .sloK (Nat.le_of_ble_eq_true rfl) | exact .ptrK (Nat.le_of_ble_eq_true rfl) | exact rs_pur (by simp) rfl)⟩, trivial⟩ ⟨ors_vec (pu_int _), trivial⟩ ?_
        refine w_reg (l := r33_15.toList) rfl r33_15_ok ?_
        refine a_op rfl (o_add rfl rfl (by simp only [klo, khi]; omega)) ?_
        refine a_op rfl (o_mv rfl) ?_
        refine a_nil ?_
        refine tq_n ?_
        have hst : needS cs l (i + 1) = ((needS cs l i).1.set k 1, (needS cs l i).2 + 1) := by rw [needS_succ hi, needStep, if_neg (by omega), show (l[i].stk).toNat = k by omega, getDi hkc, getDi hkm, if_pos (by omega)]
        exact ⟨i + 1, ⟨by omega, by omega⟩, ⟨(by first | exact sub_int rfl (by omega) | rfl | exact sub_int rfl (by rw [hst]) | exact sub_int rfl (by simp [needS])), (by first | exact sub_int rfl (by omega) | rfl | exact sub_int rfl (by rw [hst]) | exact sub_int rfl (by simp [needS])), (by first | exact sub_int rfl (by omega) | rfl | exact sub_int rfl (by rw [hst]) | exact sub_int rfl (by simp [needS])), (by first | exact sub_int rfl (by omega) | rfl | exact sub_int rfl (by rw [hst]) | exact sub_int rfl (by simp [needS])), (by first | exact sub_int rfl (by omega) | rfl | exact sub_int rfl (by rw [hst]) | exact sub_int rfl (by simp [needS])), (by first | exact sub_int rfl (by omega) | rfl | exact sub_int rfl (by rw [hst]) | exact sub_int rfl (by simp [needS])), (by first | exact sub_int rfl (by omega) | rfl | exact sub_int rfl (by rw [hst]) | exact sub_int rfl (by simp [needS])), (by first | exact sub_int rfl (by omega) | rfl | exact sub_int rfl (by rw [hst]) | exact sub_int rfl (by simp [needS])), (by first | exact sub_int rfl (by omega) | rfl | exact sub_int rfl (by rw [hst]) | exact sub_int rfl (by simp [needS])), trivial⟩, by rw [hst, set_set2]⟩
      refine d_nil ?_
      refine tq_n ?_
      refine w_false rfl ?_
      refine awp_skip ?_
      refine bq_n ?_
      refine tq_n ?_
      refine w_view [(0, .sl 1 b (cs.map intAV)), (1, .sl 2 b2 (l.map feedAV)), (4, .raw (.int .i64 0)), (5, .raw (.int .i64 0)), (7, .slo 0 0 0 cs.length), (8, .raw (.int .i64 ((needS cs l i).2))), (23, .sl 2 b2 (l.map feedAV)), (24, .raw (.int .i64 ((l.length : Nat) : Int))), (25, .raw (.int .i64 ((i : Nat) : Int)))] [.vec 1 0 ((((needS cs l i).1).set k ((needS cs l i).1[k] + 1)).map intAV)] 1 rfl (Nat.le_of_ble_eq_true rfl) (Nat.le_of_ble_eq_true rfl) ⟨⟨_, rfl, (by first | exact .sloK (Nat.le_of_ble_eq_true rfl) | exact .ptrK (Nat.le_of_ble_eq_true rfl) | exact rs_pur (by simp) rfl)⟩, ⟨_, rfl, (by first | exact .sloK (Nat.le_of_ble_eq_true rfl) | exact .ptrK (Nat.le_of_ble_eq_true rfl) | exact rs_pur (by simp) rfl)⟩, ⟨_, rfl, (by first | exact .sloK (Nat.le_of_ble_eq_true rfl) | exact .ptrK (Nat.le_of_ble_eq_true rfl) | exact rs_pur (by simp) rfl)⟩, ⟨_, rfl, (by first | exact .sloK (Nat.le_of_ble_eq_true rfl) | exact .ptrK (Nat.le_of_ble_eq_true rfl) | exact rs_pur (by simp) rfl)⟩, ⟨_, rfl, (by first | exact .sloK (Nat.le_of_ble_eq_true rfl) | exact .ptrK (Nat.le_of_ble_eq_true rfl) | exact rs_pur (by simp) rfl)⟩, ⟨_, rfl, (by first | exact .sloK (Nat.le_of_ble_eq_true rfl) | exact .ptrK (Nat.le_of_ble_eq_true rfl) | exact rs_pur (by simp) rfl)⟩, ⟨_, rfl, (by first | exact .sloK (Nat.le_of_ble_eq_true rfl) | exact .ptrK (Nat.le_of_ble_eq_true rfl) | exact rs_pur (by simp) rfl)⟩, ⟨_, rfl, (by first | exact .sloK (Nat.le_of_ble_eq_true rfl) | exact .ptrK (Nat.le_of_ble_eq_true rfl) | exact rs_pur (by simp) rfl)⟩, ⟨_, rfl, (by first | exact .sloK (Nat.le_of_ble_eq_true rfl) | exact .ptrK (Nat.le_of_ble_eq_true rfl) | exact rs_pur (by simp) rfl)⟩, trivial⟩ ⟨ors_vec (pu_int _), trivial⟩ ?_
      refine w_reg (l := r33_15.toList) rfl r33_15_ok ?_
      refine a_op rfl (o_add rfl rfl (by simp only [klo, khi]; omega)) ?_
      refine a_op rfl (o_mv rfl) ?_
      refine a_nil ?_
      refine tq_n ?_
      have hst : needS cs l (i + 1) = ((needS cs l i).1.set k ((needS cs l i).1[k] + 1), (needS cs l i).2) := by rw [needS_succ hi, needStep, if_neg (by omega), show (l[i].stk).toNat = k by omega, getDi hkc, getDi hkm, if_neg (by omega)]
      exact ⟨i + 1, ⟨by omega, by omega⟩, ⟨(by first | exact sub_int rfl (by omega) | rfl | exact sub_int rfl (by rw [hst]) | exact sub_int rfl (by simp [needS])), (by first | exact sub_int rfl (by omega) | rfl | exact sub_int rfl (by rw [hst]) | exact sub_int rfl (by simp [needS])), (by first | exact sub_int rfl (by omega) | rfl | exact sub_int rfl (by rw [hst]) | exact sub_int rfl (by simp [needS])), (by first | exact sub_int rfl (by omega) | rfl | exact sub_int rfl (by rw [hst]) | exact sub_int rfl (by simp [needS])), (by first | exact sub_int rfl (by omega) | rfl | exact sub_int rfl (by rw [hst]) | exact sub_int rfl (by simp [needS])), (by first | exact sub_int rfl (by omega) | rfl | exact sub_int rfl (by rw [hst]) | exact sub_int rfl (by simp [needS])), (by first | exact sub_int rfl (by omega) | rfl | exact sub_int rfl (by rw [hst]) | exact sub_int rfl (by simp [needS])), (by first | exact sub_int rfl (by omega) | rfl | exact sub_int rfl (by rw [hst]) | exact sub_int rfl (by simp [needS])), (by first | exact sub_int rfl (by omega) | rfl | exact sub_int rfl (by rw [hst]) | exact sub_int rfl (by simp [needS])), trivial⟩, by rw [hst]⟩
    refine a_nil ?_
    refine tq_n ?_
    refine awp_seq ?_
    refine w_false rfl ?_
    refine awp_exit ?_
    refine tq_x ?_
    refine tq_x ?_
    refine bq_hit ?_
    refine tq_n ?_
    refine awp_seq ?_
    refine w_reg (l := r33_16.toList) rfl r33_16_ok ?_
    refine a_op rfl (o_mv rfl) ?_
    refine a_op rfl (o_as rfl) ?_
    refine a_op rfl (o_as rfl) ?_
    refine a_nil ?_
    refine tq_n ?_
    refine awp_ret ?_
    refine r_tup (xs := []) rfl ⟨rfl, rfl, trivial⟩ ?_
    have hr : needF cs l = (needN cs l, 0) := by rw [needF, if_pos (by assumption), if_pos hw0]
    exact rs_tup ⟨rs_pur (by simp) (by rw [hr, needN, show l.length = i by omega]), rs_pur (by simp) (by rw [hr]), trivial⟩
  refine a_op rfl (o_ntf rfl) ?_
  refine a_nil ?_
  refine tq_n ?_
  refine w_true rfl ?_
  refine awp_seq ?_
  refine w_reg (l := r33_2.toList) rfl r33_2_ok ?_
  refine a_op rfl (o_as rfl) ?_
  refine a_op rfl (o_as rfl) ?_
  refine a_nil ?_
  refine tq_n ?_
  refine awp_ret ?_
  refine tq_r ?_
  refine r_tup (xs := []) rfl ⟨rfl, rfl, trivial⟩ ?_
  exact rs_tup ⟨rs_pur (by simp) (by simp_all [needF]), rs_pur (by simp) (by simp_all [needF]), trivial⟩
end Go.Ab.S
namespace Go.Ab.S
open Go Go.Ab Go.Proofs
structure EvR where
  kind : Int
  item : Int
  stk : Int
def evAV (e : EvR) : AV := .agg [.raw (.int .u8 e.kind), .raw (.int .i64 e.item), .raw (.int .i64 e.stk)]
@[simp] theorem pur_ev (x : EvR) : Pur (evAV x) ↔ True := by simp [evAV]
theorem pu_ev (l : List EvR) : ∀ x ∈ l.map evAV, Pur x := by simp
/-- The machine. -/
structure MS where
  rows : List (List Int)
  swept : List Int
  over : List Int
  rej : List Int
  ev : List EvR
  load : List Int
  sweeps : Int
def refs : Nat → List (List Int) → List AV
  | _, [] => []
  | n, r :: t => .slo n r.length 0 r.length :: refs (n + 1) t
def rowO (r : List Int) : AObj := .vec 1 r.length (r.map intAV)
theorem refs_len : ∀ (n : Nat) (l : List (List Int)), (refs n l).length = l.length
  | _, [] => rfl
  | n, r :: t => by simp [refs, refs_len (n + 1) t]
theorem refs_get : ∀ (n : Nat) (l : List (List Int)) (k : Nat) (h : k < l.length), (refs n l)[k]? = some (.slo (n + k) l[k].length 0 l[k].length)
  | n, r :: t, 0, _ => rfl
  | n, r :: t, k + 1, h => by
    have := refs_get (n + 1) t k (by simpa using h)
    simp only [refs, List.getElem?_cons_succ, this, List.getElem_cons_succ]
    rw [show n + 1 + k = n + (k + 1) by omega]
theorem refs_set : ∀ (n : Nat) (l : List (List Int)) (k : Nat) (r : List Int), k < l.length → (refs n l).set k (.slo (n + k) r.length 0 r.length) = refs n (l.set k r)
  | n, r0 :: t, 0, r, _ => rfl
  | n, r0 :: t, k + 1, r, h => by
    have := refs_set (n + 1) t k r (by simpa using h)
    simp only [refs, List.set_cons_succ, ← this]
    rw [show n + 1 + k = n + (k + 1) by omega]
noncomputable def mF (b : Fl) (cs : List Int) (s : MS) : Heap := [.var [.raw (.slice none 0 0), .raw (.slice none 0 0), .raw (.slice none 0 0), .raw (.slice none 0 0), .raw (.slice none 0 0)], .vec 1 1 (refs 8 s.rows), .vec 1 1 (s.swept.map intAV), .vec 1 1 (s.load.map intAV),
  .var [.slo 1 1 0 cs.length, .slo 2 1 0 cs.length, .slo 5 s.over.length 0 s.over.length, .slo 6 s.rej.length 0 s.rej.length, .slo 7 s.ev.length 0 s.ev.length, .sl 1 b (cs.map intAV), .slo 3 1 0 cs.length, .raw (.int .i64 s.sweeps)],
  .vec 1 s.over.length (s.over.map intAV), .vec 1 s.rej.length (s.rej.map intAV), .vec 3 s.ev.length (s.ev.map evAV)]
noncomputable def mH (b : Fl) (cs : List Int) (s : MS) : Heap := mF b cs s ++ s.rows.map rowO
theorem mF_len (b : Fl) (cs : List Int) (s : MS) : (mF b cs s).length = 8 := rfl
theorem mH_len (b : Fl) (cs : List Int) (s : MS) : (mH b cs s).length = 8 + s.rows.length := by simp [mH, mF_len]
theorem mH_row {b : Fl} {cs : List Int} {s : MS} {k : Nat} (h : k < s.rows.length) : (mH b cs s)[8 + k]? = some (.vec 1 s.rows[k].length (s.rows[k].map intAV)) := by
  rw [mH, List.getElem?_append_right (by rw [mF_len]; omega), mF_len, show 8 + k - 8 = k by omega]; simp [h, rowO]
structure okM (n B : Nat) (s : MS) : Prop where
  rows : s.rows.length = n
  swept : s.swept.length = n
  load : s.load.length = n
  rl : ∀ r ∈ s.rows, r.length ≤ B
  ol : s.over.length ≤ B
  jl : s.rej.length ≤ B
  el : s.ev.length ≤ 2 * B
  sb : ∀ v ∈ s.swept, 0 ≤ v ∧ v ≤ B
  lb : ∀ v ∈ s.load, 0 ≤ v ∧ v ≤ B
  s0 : 0 ≤ s.sweeps
  s1 : s.sweeps ≤ 1000
def noteM (s : MS) (e : EvR) : MS := { s with ev := s.ev ++ [e] }
def rejM (s : MS) (x : Int) : MS := { s with rej := s.rej ++ [x] }
def overM (s : MS) (x : Int) : MS := { s with over := s.over ++ [x] }
def sweepM (s : MS) (k : Nat) : MS := { s with sweeps := s.sweeps - 1, load := s.load.set k 0, swept := s.swept.set k (s.swept.getD k 0 + 1) }
def stackM (s : MS) (k : Nat) (x : Int) : MS := { s with load := s.load.set k (s.load.getD k 0 + 1), rows := s.rows.set k (s.rows.getD k [] ++ [x]) }
def tailM (cs : List Int) (s : MS) (x : FeedR) : MS :=
  if s.load.getD x.stk.toNat 0 = cs.getD x.stk.toNat 0 then noteM (overM s x.item) ⟨3, x.item, x.stk⟩ else noteM (stackM s x.stk.toNat x.item) ⟨1, x.item, x.stk⟩
def stepM (cs : List Int) (s : MS) (x : FeedR) : MS :=
  if x.stk < 0 then noteM (rejM s x.item) ⟨4, x.item, -1⟩
  else tailM cs (if s.load.getD x.stk.toNat 0 = cs.getD x.stk.toNat 0 ∧ 0 < s.sweeps then noteM (sweepM s x.stk.toNat) ⟨2, x.item, x.stk⟩ else s) x
theorem ors_self {H : Heap} {n : Nat} {z ver : Nat} {es : List AV} (h : ∀ x ∈ es, Rs H (· < n) x x) : ORs H (· < n) (.vec z ver es) (.vec z ver es) :=
  .vec rfl (fun k x x' h1 h2 => by rw [h1] at h2; cases h2; rfl) (fun k x x' h1 h2 => by rw [h1] at h2; cases h2; exact h x (List.mem_of_getElem? h1))
theorem refs_self {H : Heap} {m : Nat} : ∀ (n : Nat) (l : List (List Int)), n + l.length ≤ m → ∀ x ∈ refs n l, Rs H (· < m) x x
  | _, [], _, x, h => by simp [refs] at h
  | n, r :: t, h, x, hx => by
    simp only [refs, List.mem_cons] at hx
    rcases hx with rfl | hx
    · exact .sloK (by simp at h; omega)
    · exact refs_self (n + 1) t (by simp at h; omega) x hx
theorem mH_self {H : Heap} {b : Fl} {cs : List Int} {s : MS} : ∀ o ∈ mH b cs s, ORs H (· < (mH b cs s).length) o o := by
  intro o ho
  have hl := mH_len b cs s
  rw [mH, List.mem_append] at ho
  rcases ho with ho | ho
  · simp only [mF, List.mem_cons, List.not_mem_nil, or_false] at ho
    have kp : ∀ {i : Nat} {v l : Nat}, i < 8 → Rs H (· < (mH b cs s).length) (.slo i v 0 l) (.slo i v 0 l) := fun h => .sloK (show _ < _ by omega)
    rcases ho with rfl | rfl | rfl | rfl | rfl | rfl | rfl | rfl
    · exact ors_var ⟨.raw _, .raw _, .raw _, .raw _, .raw _, trivial⟩
    · exact ors_self (refs_self 8 _ (by omega))
    · exact ors_vec (pu_int _)
    · exact ors_vec (pu_int _)
    · exact ors_var ⟨kp (by decide), kp (by decide), kp (by decide), kp (by decide), kp (by decide), rs_pur (by simp) rfl, kp (by decide), .raw _, trivial⟩
    · exact ors_vec (pu_int _)
    · exact ors_vec (pu_int _)
    · exact ors_vec (pu_ev _)
  · obtain ⟨r, _, rfl⟩ := List.mem_map.1 ho
    exact ors_vec (pu_int _)
theorem note_heap (b : Fl) (cs : List Int) (s : MS) (e : EvR) : mH b cs (noteM s e) = [.var [.raw (.slice none 0 0), .raw (.slice none 0 0), .raw (.slice none 0 0), .raw (.slice none 0 0), .raw (.slice none 0 0)], .vec 1 1 (refs 8 s.rows), .vec 1 1 (s.swept.map intAV), .vec 1 1 (s.load.map intAV),
  .var [.slo 1 1 0 cs.length, .slo 2 1 0 cs.length, .slo 5 s.over.length 0 s.over.length, .slo 6 s.rej.length 0 s.rej.length, .slo 7 (s.ev.length + 1) 0 (s.ev.length + 1), .sl 1 b (cs.map intAV), .slo 3 1 0 cs.length, .raw (.int .i64 s.sweeps)],
  .vec 1 s.over.length (s.over.map intAV), .vec 1 s.rej.length (s.rej.map intAV), .vec 3 (s.ev.length + 1) (s.ev.map evAV ++ [evAV e])] ++ s.rows.map rowO := by
  simp [mH, mF, noteM]

noncomputable def r142_0 : Array Oper := opsAt Try.f142 []
theorem r142_0_ok : dstOk 15 r142_0.toList = true ∧ r142_0.toList.all (fun o => noDefer o.op) = true := by decide +kernel
noncomputable def c142 : Code := (.region 0 r142_0 false)
theorem body142 : Try.f142.body = some c142 := by kernel_rfl
theorem note_ok (b : Fl) (cs : List Int) (s : MS) (e : EvR) (hl : s.ev.length ≤ 10000000) (d : Fl) : ACall Try.prog GL 142 [.ptr 4 0, .sl 3 d [evAV e]] (mH b cs s) (fun r H' => r = .tup [] ∧ H' = mH b cs (noteM s e)) := by
  refine acall_of_body Try.func142 body142 (Nat.le_of_ble_eq_true rfl) ?_
  refine w_keep [(0, .ptr 4 0), (1, .sl 3 d [evAV e])] ⟨rfl, rfl, trivial⟩ ?_
  unfold c142
  refine w_reg (l := r142_0.toList) rfl r142_0_ok ?_
  refine a_op rfl (o_mv rfl) ?_
  refine a_op rfl (o_mv rfl) ?_
  refine a_op rfl (o_nc rfl rfl) ?_
  refine a_op rfl ((by first | exact o_fa tf253_0 rfl rfl | exact o_fap tf253_0 rfl rfl)) ?_
  refine a_op rfl ((by first | exact o_fa tf60_4 rfl rfl | exact o_fap tf60_4 rfl rfl)) ?_
  refine a_op rfl ((by first | exact o_ld tg58 rfl rfl | exact o_ldp tg58 rfl rfl rfl rfl)) ?_
  refine a_op rfl (o_mv rfl) ?_
  refine a_op rfl (o_ap tE58 rfl rfl (by simp []) rfl rfl rfl (by simp []; omega) (by simp []; omega) rfl rfl rfl rfl) ?_
  refine a_op rfl (o_nc rfl rfl) ?_
  refine a_op rfl ((by first | exact o_fa tf253_0 rfl rfl | exact o_fap tf253_0 rfl rfl)) ?_
  refine a_op rfl ((by first | exact o_fa tf60_4 rfl rfl | exact o_fap tf60_4 rfl rfl)) ?_
  refine a_op0 rfl (o_st (N := 0) tn58 rfl rfl (by first | rfl | exact good_slo rfl) rfl rfl) ?_
  refine a_nil ?_
  refine r_norm ?_
  refine r_none rfl trivial ?_
  exact ⟨rfl, (note_heap b cs s e).symm⟩
end Go.Ab.S
