/- A program logic over the model: contracts of calls, proved from the model alone, without conditions. -/
import Derived.Test.YtghoaglolhdoeaaDoorAb19
set_option linter.unusedSimpArgs false
set_option linter.unusedVariables false
namespace Go.Ab
open Go

section
variable {E : Env} {ops : Array Oper} {p : Plan} {fr : Nat → Frm} {hp : Nat → Heap} {val : Nat → AV} {up : Nat → Option (Nat × AObj)} {w : Nat → Bool}

def dstOf (ops : Array Oper) (k : Nat) : Option Tmp := (ops[k]?).bind (·.dst)

theorem ev_put (F : Frm) (d : Option Tmp) (v : AV) (t : Tmp) : ev (put F d v) (.tmp t) = if d = some t then v else ev F (.tmp t) := by
  cases d with
  | none => simp [put]
  | some d =>
    simp only [put, ev, List.lookup_cons]
    by_cases h : t = d
    · subst h; simp
    · have h1 : (t == d) = false := by simpa using h
      have h2 : d ≠ t := fun e => h e.symm
      simp [h1, h2]

theorem fr_sl (hd : ∀ k, k < ops.size → ∃ o, Data E ops p fr hp val up w k o) (t : Tmp) : ∀ k, k ≤ ops.size → ev (fr k) (.tmp t) = sl (dstOf ops) val (fun _ => true) (ev (fr 0) (.tmp t)) t k
  | 0, _ => rfl
  | k + 1, hk => by
    obtain ⟨o, d⟩ := hd k (by omega)
    rw [d.fr', ev_put, fr_sl hd t k (by omega)]
    simp [sl, dstOf, d.ho]

theorem hp_len (hd : ∀ k, k < ops.size → ∃ o, Data E ops p fr hp val up w k o) : ∀ k, k ≤ ops.size → (hp k).length = (hp 0).length
  | 0, _ => rfl
  | k + 1, hk => by
    obtain ⟨o, d⟩ := hd k (by omega)
    rw [d.hp', ← hp_len hd k (by omega)]
    cases up k with
    | none => rfl
    | some q => simp [upd1]

theorem upd1_get (u : Option (Nat × AObj)) (H : Heap) (j : Nat) (hj : j < H.length) : (upd1 u H)[j]? = match u with | some (k, o) => if k = j then some o else H[j]? | none => H[j]? := by
  cases u with
  | none => rfl
  | some q =>
    obtain ⟨k, o⟩ := q
    simp only [upd1]
    by_cases h : k = j
    · subst h; simp [hj]
    · simp [h, List.getElem?_set_ne h]

theorem hp_ob (hd : ∀ k, k < ops.size → ∃ o, Data E ops p fr hp val up w k o) (j : Nat) (hj : j < (hp 0).length) : ∀ k, k ≤ ops.size → (hp k)[j]? = ob up (fun _ => true) ((hp 0)[j]?) j k
  | 0, _ => rfl
  | k + 1, hk => by
    obtain ⟨o, d⟩ := hd k (by omega)
    rw [d.hp', upd1_get _ _ _ (by rw [hp_len hd k (by omega)]; exact hj), hp_ob hd j hj k (by omega)]
    simp only [ob]
    cases up k with
    | none => rfl
    | some q => obtain ⟨i, o'⟩ := q; simp

/-- What the plan's check says of one operation. -/
structure PlanAt (p : Plan) (ops : Array Oper) (i : Nat) (o : Oper) : Prop where
  on : ∀ e ∈ o.after, Region.binds .any e = true → e.on < i
  dep : ∀ j ∈ p.depOf i, ∃ e ∈ o.after, Region.binds .any e = true ∧ (e.on = j ∨ j ∈ p.depOf e.on)
  lk : ∀ t ∈ p.lksOf i, t ∈ o.looksAt ops
  pair : ∀ j q, j < i → ops[j]? = some q → j ∈ p.depOf i ∨ (o.apart ops q = true ∧ (∀ k, p.wrOf i = some k → k ∉ p.ksOf j) ∧ (∀ k, p.wrOf j = some k → k ∉ p.ksOf i))

theorem Plan.at (h : p.ok ops = true) {i : Nat} {o : Oper} (ho : ops[i]? = some o) : PlanAt p ops i o := by
  have hi : i < ops.size := by
    rcases Nat.lt_or_ge i ops.size with h' | h'
    · exact h'
    · rw [Array.getElem?_eq_none h'] at ho; cases ho
  have h1 := List.all_eq_true.1 h i (List.mem_range.2 hi)
  rw [ho] at h1
  simp only [Bool.and_eq_true] at h1
  obtain ⟨⟨⟨a, b⟩, c⟩, d⟩ := h1
  refine ⟨fun e he hb => ?_, fun j hj => ?_, fun t ht => ?_, fun j q hj hq => ?_⟩
  · have := List.all_eq_true.1 a e (Array.mem_toList_iff.2 he)
    simp [hb] at this
    simpa [Nat.blt] using this
  · have := List.all_eq_true.1 b j hj
    obtain ⟨e, he, h2⟩ := List.any_eq_true.1 this
    simp only [Bool.and_eq_true, Bool.or_eq_true, beq_iff_eq, List.contains_iff_mem] at h2
    exact ⟨e, Array.mem_toList_iff.1 he, h2.1, h2.2⟩
  · have := List.all_eq_true.1 c t ht
    simpa using this
  · have := List.all_eq_true.1 d j (List.mem_range.2 hj)
    rw [hq] at this
    simp only [Bool.or_eq_true, Bool.and_eq_true, List.contains_iff_mem] at this
    refine this.imp id fun h => ⟨h.1.1, fun k hk => ?_, fun k hk => ?_⟩
    · have := h.1.2; rw [hk] at this; simpa using this
    · have := h.2; rw [hk] at this; simpa using this

theorem plan_lt (h : p.ok ops = true) : ∀ {i : Nat} {o : Oper}, ops[i]? = some o → ∀ j ∈ p.depOf i, j < i := by
  intro i
  induction i using Nat.strongRecOn with
  | _ i ih =>
    intro o ho j hj
    have a := Plan.at h ho
    obtain ⟨e, he, hb, h2⟩ := a.dep j hj
    have hlt := a.on e he hb
    have hi : i < ops.size := by
      rcases Nat.lt_or_ge i ops.size with h' | h'
      · exact h'
      · rw [Array.getElem?_eq_none h'] at ho; cases ho
    rcases h2 with rfl | h2
    · exact hlt
    · exact Nat.lt_trans (ih e.on hlt (Array.getElem?_eq_getElem (by omega)) j h2) hlt

structure DInv (E : Env) (ops : Array Oper) (p : Plan) (fr : Nat → Frm) (hp : Nat → Heap) (val : Nat → AV) (up : Nat → Option (Nat × AObj)) (K : Kon) (listed : Array Bool) (C : Ctx) (a : Act) : Prop where
  sz : listed.size = ops.size
  closed : ∀ i, listed.getD i false = true → ∀ j ∈ p.depOf i, listed.getD j false = true
  hp' : Hp K C
  tm : a.tmps.size = E.N
  mks : Marks K C a.defers
  slots : ∀ t, Vl C (sl (dstOf ops) val (fun k => listed.getD k false) (ev (fr 0) (.tmp t)) t ops.size) (a.tmps.getD t undef)
  len : C.H.length = (hp 0).length
  heap : ∀ j, j < C.H.length → C.H[j]? = ob up (fun k => listed.getD k false) ((hp 0)[j]?) j ops.size

theorem pair_of (h : p.ok ops = true) {i k : Nat} {o q : Oper} (ho : ops[i]? = some o) (hq : ops[k]? = some q) (hne : k ≠ i) :
    k ∈ p.depOf i ∨ i ∈ p.depOf k ∨ ((∀ t, q.dst = some t → t ∉ o.looksAt ops ∧ o.dst ≠ some t) ∧ (∀ j, p.wrOf k = some j → j ∉ p.ksOf i) ∧ (∀ t, o.dst = some t → t ∉ q.looksAt ops)) := by
  rcases Nat.lt_or_gt_of_ne hne with hlt | hlt
  · rcases (Plan.at h ho).pair k q hlt hq with h1 | ⟨h1, h2, h3⟩
    · exact .inl h1
    · have := Oper.apart_spec h1
      exact .inr (.inr ⟨fun t ht => ⟨this.2.2 t ht, fun hd => this.2.1 t hd ht⟩, h3, this.1⟩)
  · rcases (Plan.at h hq).pair i o hlt ho with h1 | ⟨h1, h2, h3⟩
    · exact .inr (.inl h1)
    · have := Oper.apart_spec h1
      exact .inr (.inr ⟨fun t ht => ⟨this.1 t ht, fun hd => this.2.1 t ht hd⟩, h2, this.2.2⟩)

theorem getD_set_self {listed : Array Bool} {i : Nat} (hi : i < listed.size) : (listed.setIfInBounds i true).getD i false = true := by simp [hi]

theorem draw_step {md : Region.Mode} (hmd : md = .any) (hok : p.ok ops = true) (hdst : dstOk E.N ops.toList = true) (hnd : ops.toList.all (fun o => noDefer o.op) = true)
    (hd : ∀ k, k < ops.size → ∃ o, Data E ops p fr hp val up w k o) {K : Kon} (hG : K.G = E.G) {listed : Array Bool} {C : Ctx} {a : Act} (inv : DInv E ops p fr hp val up K listed C a) {i : Nat} (hi : i ∈ Region.ready md ops listed)
    (Q' : Exit → Act → World → Prop) (K' : Act → World → Prop) (hK : ∀ C' a', DInv E ops p fr hp val up K (listed.setIfInBounds i true) C' a' → K' a' C'.w) : wpOpIn (rnd K.rb) 0 E.P ops Q' i K' a C.w := by
  subst hmd
  obtain ⟨h0, o, ho, hon⟩ := mem_ready.1 hi
  have hin : i < ops.size := by
    rcases Nat.lt_or_ge i ops.size with h' | h'
    · exact h'
    · rw [Array.getElem?_eq_none h'] at ho; cases ho
  have hil : i < listed.size := by rw [inv.sz]; exact hin
  have hSi : listed.getD i false = false := by
    have : listed.getD i true = listed.getD i false := by simp [hil]
    rw [← this]; exact h0
  obtain ⟨o', d⟩ := hd i hin
  have : o' = o := by have := d.ho; rw [ho] at this; exact (Option.some.inj this).symm
  subst this
  have at' := Plan.at hok ho
  have hdep : ∀ j ∈ p.depOf i, listed.getD j false = true := fun j hj => by
    obtain ⟨e, he, hb, h2⟩ := at'.dep j hj
    rcases h2 with rfl | h2
    · exact hon e he hb
    · exact inv.closed _ (hon e he hb) j h2
  have hdep' : ∀ k, i ∈ p.depOf k → listed.getD k false = false := fun k hk => by
    cases hS : listed.getD k false with
    | false => rfl
    | true => have := inv.closed k hS i hk; rw [hSi] at this; cases this
  -- who is ordered stands on the right side
  have side : ∀ k, k < ops.size → k ≠ i → (k ∈ p.depOf i ∨ i ∈ p.depOf k) → listed.getD k false = decide (k < i) := fun k hk hne hor => by
    rcases hor with h1 | h1
    · rw [hdep k h1]; have := plan_lt hok ho k h1; simp [this]
    · rw [hdep' k h1]; have := plan_lt hok (Array.getElem?_eq_getElem hk) i h1; simp; omega
  have slotA : ∀ t, t ∈ o'.looksAt ops → sl (dstOf ops) val (fun k => listed.getD k false) (ev (fr 0) (.tmp t)) t ops.size = ev (fr i) (.tmp t) := fun t ht => by
    rw [fr_sl hd t i (by omega)]
    have e1 : sl (dstOf ops) val (fun k => listed.getD k false) (ev (fr 0) (.tmp t)) t ops.size = sl (dstOf ops) val (fun k => decide (k < i)) (ev (fr 0) (.tmp t)) t ops.size := by
      refine sl_congr fun k hk hdk => ?_
      by_cases hki : k = i
      · subst hki; simp [hSi]
      · have hq : ops[k]? = some ops[k] := Array.getElem?_eq_getElem hk
        have hdk' : ops[k].dst = some t := by simpa [dstOf, hq] using hdk
        rcases pair_of hok ho hq hki with h1 | h1 | h1
        · exact side k hk hki (.inl h1)
        · exact side k hk hki (.inr h1)
        · exact absurd ht (h1.1 t hdk').1
    rw [e1, sl_cut i (fun k h1 _ _ => by simp; omega) (by omega)]
    exact sl_congr fun k hk _ => by simp [hk]
  have heapA : ∀ j, j ∈ p.ksOf i → j < C.H.length → C.H[j]? = (hp i)[j]? := fun j hj hjl => by
    rw [inv.heap j hjl, hp_ob hd j (by rw [← inv.len]; exact hjl) i (by omega)]
    have e1 : ob up (fun k => listed.getD k false) ((hp 0)[j]?) j ops.size = ob up (fun k => decide (k < i)) ((hp 0)[j]?) j ops.size := by
      refine ob_congr fun k q hk huk => ?_
      by_cases hki : k = i
      · subst hki; simp [hSi]
      · obtain ⟨ok, dk⟩ := hd k hk
        rcases pair_of hok ho dk.ho hki with h1 | h1 | h1
        · exact side k hk hki (.inl h1)
        · exact side k hk hki (.inr h1)
        · exact absurd hj (h1.2.1 j (dk.wr j q huk).1)
    rw [e1, ob_cut i (fun k q h1 _ _ => by simp; omega) (by omega)]
    exact ob_congr fun k q hk _ => by simp [hk]
  have hfr : FrOk C (restr (fr i) (p.lksOf i)) a.tmps := fun k x hx => by
    obtain ⟨h1, h2⟩ := restr_lookup _ _ _ _ hx
    rw [← h2, ← slotA k (at'.lk k h1)]
    exact inv.slots k
  have hw := gd_ok hfr d.g
  have hno : noDefer o'.op = true := List.all_eq_true.1 hnd o' (by rw [← Array.getElem?_toList] at ho; exact List.mem_of_getElem? ho)
  have hdN : ∀ x, o'.dst = some x → x < E.N := fun x hx => by
    have := List.all_eq_true.1 hdst o' (by rw [← Array.getElem?_toList] at ho; exact List.mem_of_getElem? ho)
    rw [hx] at this; simpa using this
  -- the state behind
  have after : ∀ (C' : Ctx) (u : Value), Ext C C' → Hp K C' → Vl C' (val i) u → C'.H = upd1 (up i) C.H → DInv E ops p fr hp val up K (listed.setIfInBounds i true) C' (a.put o'.dst u) := by
    intro C' u e hp2 hv hH
    have hS' : ∀ k, (listed.setIfInBounds i true).getD k false = if k = i then true else listed.getD k false := fun k => by
      by_cases h : k = i
      · subst h; simp [hil]
      · rw [getD_set_ne false (fun h' => h h'.symm), if_neg h]
    have dsti : dstOf ops i = o'.dst := by simp [dstOf, ho]
    refine { sz := by simpa using inv.sz, closed := fun k hk j hj => ?_, hp' := hp2, tm := ?_, mks := ?_, slots := fun t => ?_, len := ?_, heap := fun j hj => ?_ }
    · rw [hS'] at hk ⊢
      by_cases hki : k = i
      · subst hki
        by_cases hjk : j = k
        · simp [hjk]
        · rw [if_neg hjk]; exact hdep j hj
      · rw [if_neg hki] at hk
        by_cases hji : j = i
        · simp [hji]
        · rw [if_neg hji]; exact inv.closed k hk j hj
    · cases o'.dst <;> simp [Act.put, inv.tm]
    · cases hq : o'.dst <;> exact inv.mks.mono e
    · by_cases hdt : o'.dst = some t
      · have hvt : (a.put o'.dst u).tmps.getD t undef = u := by
          rw [hdt]
          have := hdN t hdt
          simp [Act.put, inv.tm, this]
        rw [hvt]
        have : sl (dstOf ops) val (fun k => (listed.setIfInBounds i true).getD k false) (ev (fr 0) (.tmp t)) t ops.size = val i := by
          rw [sl_cut (i + 1) (fun k h1 h2 h3 => ?_) (by omega)]
          · simp only [sl]
            rw [if_pos ⟨by rw [hS']; simp, by rw [dsti]; exact hdt⟩]
          · rw [hS', if_neg (by omega)]
            have hq : ops[k]? = some ops[k] := Array.getElem?_eq_getElem h2
            have hdk' : ops[k].dst = some t := by simpa [dstOf, hq] using h3
            rcases pair_of hok ho hq (by omega) with h4 | h4 | h4
            · have := plan_lt hok ho k h4; omega
            · exact hdep' k h4
            · exact absurd hdt (h4.1 t hdk').2
        rw [this]; exact hv
      · have hvt : (a.put o'.dst u).tmps.getD t undef = a.tmps.getD t undef := by
          cases hq : o'.dst with
          | none => rfl
          | some d' =>
            have : d' ≠ t := fun h => hdt (by rw [hq, h])
            simp [Act.put, Array.getElem?_setIfInBounds_ne this]
        rw [hvt]
        have : sl (dstOf ops) val (fun k => (listed.setIfInBounds i true).getD k false) (ev (fr 0) (.tmp t)) t ops.size = sl (dstOf ops) val (fun k => listed.getD k false) (ev (fr 0) (.tmp t)) t ops.size := by
          refine sl_congr fun k hk hdk => ?_
          rw [hS', if_neg]
          intro hki
          rw [hki, dsti] at hdk
          exact hdt hdk
        rw [this]
        exact (inv.slots t).mono e
    · rw [hH, ← inv.len]
      cases up i with
      | none => rfl
      | some q => simp [upd1]
    · have hjl : j < C.H.length := by
        rw [hH] at hj
        cases hu : up i with
        | none => rw [hu] at hj; exact hj
        | some q => rw [hu] at hj; simpa [upd1] using hj
      rw [hH, upd1_get _ _ _ hjl]
      have noti : ∀ k q, k < ops.size → up k = some (j, q) → k ≠ i → (∃ q', up i = some (j, q')) → i < k → listed.getD k false = false := fun k q hk huk hki ⟨q', hui⟩ hik => by
        obtain ⟨ok, dk⟩ := hd k hk
        rcases pair_of hok ho dk.ho hki with h1 | h1 | h1
        · have := plan_lt hok ho k h1; omega
        · exact hdep' k h1
        · exact absurd (d.wr j q' hui).2 (h1.2.1 j (dk.wr j q huk).1)
      cases hu : up i with
      | none =>
        simp only
        rw [inv.heap j hjl]
        refine ob_congr fun k q hk huk => ?_
        rw [hS', if_neg]
        intro hki; rw [hki, hu] at huk; cases huk
      | some q =>
        obtain ⟨k0, q0⟩ := q
        simp only
        by_cases hkj : k0 = j
        · subst hkj
          rw [if_pos rfl, ob_cut (i + 1) (fun k q h1 h2 h3 => ?_) (by omega)]
          · simp only [ob, hu]
            rw [if_pos ⟨by rw [hS']; simp, trivial⟩]
          · rw [hS', if_neg (by omega)]
            exact noti k q h2 h3 (by omega) ⟨q0, hu⟩ (by omega)
        · rw [if_neg hkj, inv.heap j hjl]
          refine ob_congr fun k q hk huk => ?_
          rw [hS', if_neg]
          intro hki; rw [hki, hu] at huk; cases huk; exact hkj rfl
  simp only [wpOpIn, ho]
  rw [hw]
  cases hwi : w i with
  | true =>
    simp only [if_true]
    have hmsk : C.H = msk (p.ksOf i) (fun j => (C.H[j]?).getD .dead) 0 (hp i) := by
      apply List.ext_getElem?
      intro j
      rw [msk_get]
      rcases Nat.lt_or_ge j C.H.length with hjl | hjl
      · have hl2 : j < (hp i).length := by rw [hp_len hd i (by omega), ← inv.len]; exact hjl
        rw [List.getElem?_eq_getElem hl2]
        simp only [Option.map_some, Nat.zero_add]
        by_cases hk : j ∈ p.ksOf i
        · rw [if_pos hk, heapA j hk hjl, List.getElem?_eq_getElem hl2]
        · rw [if_neg hk, List.getElem?_eq_getElem hjl]; rfl
      · have hl2 : (hp i).length ≤ j := by rw [hp_len hd i (by omega), ← inv.len]; exact hjl
        rw [List.getElem?_eq_none hjl, List.getElem?_eq_none hl2]; rfl
    have hst := d.st hwi (fun j => (C.H[j]?).getD .dead)
    rw [← hmsk] at hst
    refine Oper.wpIn_mono' ?_ (opd_run hst hno hG inv.hp' hfr rfl Q')
    rintro a' w' ⟨u, C', rfl, rfl, g1, g2, g3, g4⟩
    exact hK C' _ (after C' u g1 g2 g3 g4)
  | false =>
    simp only [Bool.false_eq_true, if_false]
    obtain ⟨e1, e2⟩ := d.off hwi
    exact ⟨fun _ _ => trivial, hK C _ (after C undef (Ext.refl C) inv.hp' (by rw [e1]; exact .raw _) (by rw [e2]; rfl))⟩

theorem ready_all {md : Region.Mode} (hmd : md = .any) (hok : p.ok ops = true) {listed : Array Bool} (hsz : listed.size = ops.size) (hr : Region.ready md ops listed = []) : ∀ i, i < ops.size → listed.getD i false = true := by
  subst hmd
  intro i
  induction i using Nat.strongRecOn with
  | _ i ih =>
    intro hi
    cases hS : listed.getD i false with
    | true => rfl
    | false =>
      exfalso
      have ho : ops[i]? = some ops[i] := Array.getElem?_eq_getElem hi
      have hil : i < listed.size := by omega
      have : i ∈ Region.ready .any ops listed := mem_ready.2 ⟨by simpa [hil] using hS, ops[i], ho, fun e he hb => by
        have := (Plan.at hok ho).on e he hb
        exact ih e.on this (by omega)⟩
      rw [hr] at this; cases this

theorem draw_any (hok : p.ok ops = true) (hdst : dstOk E.N ops.toList = true) (hnd : ops.toList.all (fun o => noDefer o.op) = true) (hd : ∀ k, k < ops.size → ∃ o, Data E ops p fr hp val up w k o) {K : Kon} (hG : K.G = E.G)
    (Q' : Exit → Act → World → Prop) (hQ : ∀ C a, St K C E.N (fr ops.size) a → C.H = hp ops.size → Q' .normal a C.w) : ∀ (fuel : Nat) (listed : Array Bool) (C : Ctx) (a : Act), DInv E ops p fr hp val up K listed C a →
      (List.range ops.size).countP (fun i => !listed.getD i true) ≤ fuel → wpAnyIn (rnd K.rb) 0 E.P .any ops Q' fuel listed a C.w := by
  have fin : ∀ (listed : Array Bool) (C : Ctx) (a : Act), DInv E ops p fr hp val up K listed C a → (∀ i, i < ops.size → listed.getD i false = true) → Q' .normal a C.w := by
    intro listed C a inv hall
    refine hQ C a { hp := inv.hp', size := inv.tm, fr := fun k x hx => ?_, marks := inv.mks } ?_
    · have e1 : ev (fr ops.size) (.tmp k) = x := by simp [ev, hx]
      rw [← e1, fr_sl hd k ops.size (Nat.le_refl _)]
      have : sl (dstOf ops) val (fun _ => true) (ev (fr 0) (.tmp k)) k ops.size = sl (dstOf ops) val (fun k => listed.getD k false) (ev (fr 0) (.tmp k)) k ops.size := sl_congr fun j hj _ => (hall j hj).symm
      rw [this]; exact inv.slots k
    · apply List.ext_getElem?
      intro j
      rcases Nat.lt_or_ge j C.H.length with hjl | hjl
      · rw [inv.heap j hjl, hp_ob hd j (by rw [← inv.len]; exact hjl) ops.size (Nat.le_refl _)]
        exact ob_congr fun k q hk _ => hall k hk
      · rw [List.getElem?_eq_none hjl, List.getElem?_eq_none (by rw [hp_len hd ops.size (Nat.le_refl _), ← inv.len]; exact hjl)]
  intro fuel
  induction fuel with
  | zero =>
    intro listed C a inv hc
    have hz : ∀ i, i < ops.size → listed.getD i false = true := fun i hi => by
      have := List.countP_eq_zero.1 (Nat.le_zero.1 hc) i (List.mem_range.2 hi)
      have hil : i < listed.size := by rw [inv.sz]; exact hi
      simpa [hil] using this
    refine ⟨?_, fin listed C a inv hz⟩
    cases hr : Region.ready .any ops listed with
    | nil => rfl
    | cons i rs =>
      exfalso
      have hi : i ∈ Region.ready .any ops listed := by rw [hr]; simp
      obtain ⟨h0, o, ho, _⟩ := mem_ready.1 hi
      have hin : i < ops.size := by
        rcases Nat.lt_or_ge i ops.size with h' | h'
        · exact h'
        · rw [Array.getElem?_eq_none h'] at ho; cases ho
      have hil : i < listed.size := by rw [inv.sz]; exact hin
      have := hz i hin
      have e : listed.getD i true = listed.getD i false := by simp [hil]
      rw [← e, h0] at this; cases this
  | succ fuel ih =>
    intro listed C a inv hc
    refine ⟨fun hr => fin listed C a inv (ready_all rfl hok inv.sz hr), fun i hi => ?_⟩
    refine draw_step rfl hok hdst hnd hd hG inv hi Q' _ (fun C' a' inv' => ih _ C' a' inv' ?_)
    obtain ⟨h0, o, ho, _⟩ := mem_ready.1 hi
    have hin : i < ops.size := by
      rcases Nat.lt_or_ge i ops.size with h' | h'
      · exact h'
      · rw [Array.getElem?_eq_none h'] at ho; cases ho
    have hil : i < listed.size := by rw [inv.sz]; exact hin
    have := countP_lt (p := fun j => !(listed.setIfInBounds i true).getD j true) (q := fun j => !listed.getD j true) (i := i) (List.range ops.size) (fun x hx => by
      by_cases h : x = i
      · subst h; simp [hil] at hx
      · rw [getD_set_ne true (fun h' => h h'.symm)] at hx; exact hx) (List.mem_range.2 hin) (by rw [h0]; rfl) (by simp [hil])
    omega
end

/-- A region whose order is drawn: it is enough to walk it in the order of its text. -/
theorem awp_draw {E : Env} {Q : Exit → Frm → Heap → Prop} {F : Frm} {H : Heap} {id : Nat} {ops : Array Oper} (p : Plan) (hm : E.P.follows .mixedOrders = true) (hd : dstOk E.N ops.toList = true ∧ ops.toList.all (fun o => noDefer o.op) = true) (hok : p.ok ops = true)
    {l : List Oper} (hl : ops.toList = l) (h : DOps E ops p (Q .normal) 0 l F H) : AWp E (.region id ops true) Q F H := by
  intro K C a h1 h2 h3 h4 h5
  subst h5 hl
  obtain ⟨fr, hp, val, up, w, e1, e2, e3, e4⟩ := dops_data ops.toList 0 F C.H h (fun j => by simp) (by simp)
  subst e1
  have hdata : ∀ k, k < ops.size → ∃ o, Data E ops p fr hp val up w k o := fun k hk => e4 k (by omega) hk
  refine wpIn_region_any hm ?_
  obtain ⟨x1, x2⟩ := h4.hp.world { C.w with drawn := C.w.drawn + 1 } rfl rfl rfl (Nat.le_refl _) (fun _ _ => rfl)
  refine draw_any hok hd.1 hd.2 hdata h3 (post K E.N Q) (fun C' a' hst hH => ⟨_, C', rfl, hst, by rw [hH]; exact e3⟩) ops.size (Array.replicate ops.size false) { C with w := { C.w with drawn := C.w.drawn + 1 } } a ?_ (by simpa using List.countP_le_length (p := _) (l := List.range ops.size))
  have hS : ∀ k, (Array.replicate ops.size false).getD k false = false := fun k => by
    simp [Array.getD]
  refine { sz := by simp, closed := fun i hi => (by rw [hS] at hi; cases hi), hp' := x2, tm := h4.size, mks := h4.marks.mono x1, slots := fun t => ?_, len := by rw [e2], heap := fun j hj => ?_ }
  · have : sl (dstOf ops) val (fun k => (Array.replicate ops.size false).getD k false) (ev (fr 0) (.tmp t)) t ops.size = ev (fr 0) (.tmp t) := by
      rw [sl_cut 0 (fun k _ _ _ => hS k) (by omega)]; rfl
    rw [this]
    exact (ev_ok (a := a) h4.fr (.tmp t)).mono x1
  · have : ob up (fun k => (Array.replicate ops.size false).getD k false) ((hp 0)[j]?) j ops.size = (hp 0)[j]? := by
      rw [ob_cut 0 (fun k _ _ _ _ => hS k) (by omega)]; rfl
    rw [this, e2]
end Go.Ab
