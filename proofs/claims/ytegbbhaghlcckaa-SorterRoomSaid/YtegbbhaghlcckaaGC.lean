/- A program logic over the model: contracts of calls, proved from the model alone, without conditions. -/
import Derived.Test.YtegbbhaghlcckaaGB
import Derived.ProofKit
import Derived.Lib.LaidTab
import Derived.Deep.Slices
import Derived.Laws.StructEq
import Derived.Laws.BytesString
set_option linter.unusedSimpArgs false
set_option linter.unusedVariables false
namespace Go.Ab
open Go

section
variable {E : Env} {ops : Array Oper} {p : Plan} {fr : Nat → Frm} {hp : Nat → Heap} {val : Nat → AV} {up : Nat → Option (Nat × AObj)} {w : Nat → Bool}

def dstOf (ops : Array Oper) (k : Nat) : Option Tmp := (ops[k]?).bind (·.dst)

theorem ev_put (F : Frm) (d : Option Tmp) (v : AV) (t : Tmp) : ev (put F d v) (.tmp t) = if d = some t then v else ev F (.tmp t) := by
  cases d with
  | none => simp [put]
  | some d =>
    simp only [put, ev, List.lookup_cons]
    by_cases h : t = d
    · subst h; simp
    · have h1 : (t == d) = false := by simpa using h
      have h2 : d ≠ t := fun e => h e.symm
      simp [h1, h2]

theorem fr_sl (hd : ∀ k, k < ops.size → ∃ o, Data E ops p fr hp val up w k o) (t : Tmp) : ∀ k, k ≤ ops.size → ev (fr k) (.tmp t) = sl (dstOf ops) val (fun _ => true) (ev (fr 0) (.tmp t)) t k
  | 0, _ => rfl
  | k + 1, hk => by
    obtain ⟨o, d⟩ := hd k (by omega)
    rw [d.fr', ev_put, fr_sl hd t k (by omega)]
    simp [sl, dstOf, d.ho]

theorem hp_len (hd : ∀ k, k < ops.size → ∃ o, Data E ops p fr hp val up w k o) : ∀ k, k ≤ ops.size → (hp k).length = (hp 0).length
  | 0, _ => rfl
  | k + 1, hk => by
    obtain ⟨o, d⟩ := hd k (by omega)
    rw [d.hp', ← hp_len hd k (by omega)]
    cases up k with
    | none => rfl
    | some q => simp [upd1]

theorem upd1_get (u : Option (Nat × AObj)) (H : Heap) (j : Nat) (hj : j < H.length) : (upd1 u H)[j]? = match u with | some (k, o) => if k = j then some o else H[j]? | none => H[j]? := by
  cases u with
  | none => rfl
  | some q =>
    obtain ⟨k, o⟩ := q
    simp only [upd1]
    by_cases h : k = j
    · subst h; simp [hj]
    · simp [h, List.getElem?_set_ne h]

theorem hp_ob (hd : ∀ k, k < ops.size → ∃ o, Data E ops p fr hp val up w k o) (j : Nat) (hj : j < (hp 0).length) : ∀ k, k ≤ ops.size → (hp k)[j]? = ob up (fun _ => true) ((hp 0)[j]?) j k
  | 0, _ => rfl
  | k + 1, hk => by
    obtain ⟨o, d⟩ := hd k (by omega)
    rw [d.hp', upd1_get _ _ _ (by rw [hp_len hd k (by omega)]; exact hj), hp_ob hd j hj k (by omega)]
    simp only [ob]
    cases up k with
    | none => rfl
    | some q => obtain ⟨i, o'⟩ := q; simp

/-- What the plan's check says of one operation. -/
structure PlanAt (p : Plan) (ops : Array Oper) (i : Nat) (o : Oper) : Prop where
  on : ∀ e ∈ o.after, Region.binds .any e = true → e.on < i
  dep : ∀ j ∈ p.depOf i, ∃ e ∈ o.after, Region.binds .any e = true ∧ (e.on = j ∨ j ∈ p.depOf e.on)
  lk : ∀ t ∈ p.lksOf i, t ∈ o.looksAt ops
  pair : ∀ j q, j < i → ops[j]? = some q → j ∈ p.depOf i ∨ (o.apart ops q = true ∧ (∀ k, p.wrOf i = some k → k ∉ p.ksOf j) ∧ (∀ k, p.wrOf j = some k → k ∉ p.ksOf i))

theorem Plan.at (h : p.ok ops = true) {i : Nat} {o : Oper} (ho : ops[i]? = some o) : PlanAt p ops i o := by
  have hi : i < ops.size := by
    rcases Nat.lt_or_ge i ops.size with h' | h'
    · exact h'
    · rw [Array.getElem?_eq_none h'] at ho; cases ho
  have h1 := List.all_eq_true.1 h i (List.mem_range.2 hi)
  rw [ho] at h1
  simp only [Bool.and_eq_true] at h1
  obtain ⟨⟨⟨a, b⟩, c⟩, d⟩ := h1
  refine ⟨fun e he hb => ?_, fun j hj => ?_, fun t ht => ?_, fun j q hj hq => ?_⟩
  · have := List.all_eq_true.1 a e (Array.mem_toList_iff.2 he)
    simp [hb] at this
    simpa [Nat.blt] using this
  · have := List.all_eq_true.1 b j hj
    obtain ⟨e, he, h2⟩ := List.any_eq_true.1 this
    simp only [Bool.and_eq_true, Bool.or_eq_true, beq_iff_eq, List.contains_iff_mem] at h2
    exact ⟨e, Array.mem_toList_iff.1 he, h2.1, h2.2⟩
  · have := List.all_eq_true.1 c t ht
    simpa using this
  · have := List.all_eq_true.1 d j (List.mem_range.2 hj)
    rw [hq] at this
    simp only [Bool.or_eq_true, Bool.and_eq_true, List.contains_iff_mem] at this
    refine this.imp id fun h => ⟨h.1.1, fun k hk => ?_, fun k hk => ?_⟩
    · have := h.1.2; rw [hk] at this; simpa using this
    · have := h.2; rw [hk] at this; simpa using this

theorem plan_lt (h : p.ok ops = true) : ∀ {i : Nat} {o : Oper}, ops[i]? = some o → ∀ j ∈ p.depOf i, j < i := by
  intro i
  induction i using Nat.strongRecOn with
  | _ i ih =>
    intro o ho j hj
    have a := Plan.at h ho
    obtain ⟨e, he, hb, h2⟩ := a.dep j hj
    have hlt := a.on e he hb
    have hi : i < ops.size := by
      rcases Nat.lt_or_ge i ops.size with h' | h'
      · exact h'
      · rw [Array.getElem?_eq_none h'] at ho; cases ho
    rcases h2 with rfl | h2
    · exact hlt
    · exact Nat.lt_trans (ih e.on hlt (Array.getElem?_eq_getElem (by omega)) j h2) hlt

structure DInv (E : Env) (ops : Array Oper) (p : Plan) (fr : Nat → Frm) (hp : Nat → Heap) (val : Nat → AV) (up : Nat → Option (Nat × AObj)) (K : Kon) (listed : Array Bool) (C : Ctx) (a : Act) : Prop where
  sz : listed.size = ops.size
  closed : ∀ i, listed.getD i false = true → ∀ j ∈ p.depOf i, listed.getD j false = true
  hp' : Hp K C
  tm : a.tmps.size = E.N
  mks : Marks K C a.defers
  slots : ∀ t, Vl C (sl (dstOf ops) val (fun k => listed.getD k false) (ev (fr 0) (.tmp t)) t ops.size) (a.tmps.getD t undef)
  len : C.H.length = (hp 0).length
  heap : ∀ j, j < C.H.length → C.H[j]? = ob up (fun k => listed.getD k false) ((hp 0)[j]?) j ops.size

theorem pair_of (h : p.ok ops = true) {i k : Nat} {o q : Oper} (ho : ops[i]? = some o) (hq : ops[k]? = some q) (hne : k ≠ i) :
    k ∈ p.depOf i ∨ i ∈ p.depOf k ∨ ((∀ t, q.dst = some t → t ∉ o.looksAt ops ∧ o.dst ≠ some t) ∧ (∀ j, p.wrOf k = some j → j ∉ p.ksOf i) ∧ (∀ t, o.dst = some t → t ∉ q.looksAt ops)) := by
  rcases Nat.lt_or_gt_of_ne hne with hlt | hlt
  · rcases (Plan.at h ho).pair k q hlt hq with h1 | ⟨h1, h2, h3⟩
    · exact .inl h1
    · have := Oper.apart_spec h1
      exact .inr (.inr ⟨fun t ht => ⟨this.2.2 t ht, fun hd => this.2.1 t hd ht⟩, h3, this.1⟩)
  · rcases (Plan.at h hq).pair i o hlt ho with h1 | ⟨h1, h2, h3⟩
    · exact .inr (.inl h1)
    · have := Oper.apart_spec h1
      exact .inr (.inr ⟨fun t ht => ⟨this.1 t ht, fun hd => this.2.1 t ht hd⟩, h2, this.2.2⟩)

theorem getD_set_self {listed : Array Bool} {i : Nat} (hi : i < listed.size) : (listed.setIfInBounds i true).getD i false = true := by simp [hi]

theorem draw_step {md : Region.Mode} (hmd : md = .any) (hok : p.ok ops = true) (hdst : dstOk E.N ops.toList = true) (hnd : ops.toList.all (fun o => noDefer o.op) = true)
    (hd : ∀ k, k < ops.size → ∃ o, Data E ops p fr hp val up w k o) {K : Kon} (hG : K.G = E.G) {listed : Array Bool} {C : Ctx} {a : Act} (inv : DInv E ops p fr hp val up K listed C a) {i : Nat} (hi : i ∈ Region.ready md ops listed)
    (Q' : Exit → Act → World → Prop) (K' : Act → World → Prop) (hK : ∀ C' a', DInv E ops p fr hp val up K (listed.setIfInBounds i true) C' a' → K' a' C'.w) : wpOpIn (rnd K.rb) 0 E.P ops Q' i K' a C.w := by
  subst hmd
  obtain ⟨h0, o, ho, hon⟩ := mem_ready.1 hi
  have hin : i < ops.size := by
    rcases Nat.lt_or_ge i ops.size with h' | h'
    · exact h'
    · rw [Array.getElem?_eq_none h'] at ho; cases ho
  have hil : i < listed.size := by rw [inv.sz]; exact hin
  have hSi : listed.getD i false = false := by
    have : listed.getD i true = listed.getD i false := by simp [hil]
    rw [← this]; exact h0
  obtain ⟨o', d⟩ := hd i hin
  have : o' = o := by have := d.ho; rw [ho] at this; exact (Option.some.inj this).symm
  subst this
  have at' := Plan.at hok ho
  have hdep : ∀ j ∈ p.depOf i, listed.getD j false = true := fun j hj => by
    obtain ⟨e, he, hb, h2⟩ := at'.dep j hj
    rcases h2 with rfl | h2
    · exact hon e he hb
    · exact inv.closed _ (hon e he hb) j h2
  have hdep' : ∀ k, i ∈ p.depOf k → listed.getD k false = false := fun k hk => by
    cases hS : listed.getD k false with
    | false => rfl
    | true => have := inv.closed k hS i hk; rw [hSi] at this; cases this
  -- who is ordered stands on the right side
  have side : ∀ k, k < ops.size → k ≠ i → (k ∈ p.depOf i ∨ i ∈ p.depOf k) → listed.getD k false = decide (k < i) := fun k hk hne hor => by
    rcases hor with h1 | h1
    · rw [hdep k h1]; have := plan_lt hok ho k h1; simp [this]
    · rw [hdep' k h1]; have := plan_lt hok (Array.getElem?_eq_getElem hk) i h1; simp; omega
  have slotA : ∀ t, t ∈ o'.looksAt ops → sl (dstOf ops) val (fun k => listed.getD k false) (ev (fr 0) (.tmp t)) t ops.size = ev (fr i) (.tmp t) := fun t ht => by
    rw [fr_sl hd t i (by omega)]
    have e1 : sl (dstOf ops) val (fun k => listed.getD k false) (ev (fr 0) (.tmp t)) t ops.size = sl (dstOf ops) val (fun k => decide (k < i)) (ev (fr 0) (.tmp t)) t ops.size := by
      refine sl_congr fun k hk hdk => ?_
      by_cases hki : k = i
      · subst hki; simp [hSi]
      · have hq : ops[k]? = some ops[k] := Array.getElem?_eq_getElem hk
        have hdk' : ops[k].dst = some t := by simpa [dstOf, hq] using hdk
        rcases pair_of hok ho hq hki with h1 | h1 | h1
        · exact side k hk hki (.inl h1)
        · exact side k hk hki (.inr h1)
        · exact absurd ht (h1.1 t hdk').1
    rw [e1, sl_cut i (fun k h1 _ _ => by simp; omega) (by omega)]
    exact sl_congr fun k hk _ => by simp [hk]
  have heapA : ∀ j, j ∈ p.ksOf i → j < C.H.length → C.H[j]? = (hp i)[j]? := fun j hj hjl => by
    rw [inv.heap j hjl, hp_ob hd j (by rw [← inv.len]; exact hjl) i (by omega)]
    have e1 : ob up (fun k => listed.getD k false) ((hp 0)[j]?) j ops.size = ob up (fun k => decide (k < i)) ((hp 0)[j]?) j ops.size := by
      refine ob_congr fun k q hk huk => ?_
      by_cases hki : k = i
      · subst hki; simp [hSi]
      · obtain ⟨ok, dk⟩ := hd k hk
        rcases pair_of hok ho dk.ho hki with h1 | h1 | h1
        · exact side k hk hki (.inl h1)
        · exact side k hk hki (.inr h1)
        · exact absurd hj (h1.2.1 j (dk.wr j q huk).1)
    rw [e1, ob_cut i (fun k q h1 _ _ => by simp; omega) (by omega)]
    exact ob_congr fun k q hk _ => by simp [hk]
  have hfr : FrOk C (restr (fr i) (p.lksOf i)) a.tmps := fun k x hx => by
    obtain ⟨h1, h2⟩ := restr_lookup _ _ _ _ hx
    rw [← h2, ← slotA k (at'.lk k h1)]
    exact inv.slots k
  have hw := gd_ok hfr d.g
  have hno : noDefer o'.op = true := List.all_eq_true.1 hnd o' (by rw [← Array.getElem?_toList] at ho; exact List.mem_of_getElem? ho)
  have hdN : ∀ x, o'.dst = some x → x < E.N := fun x hx => by
    have := List.all_eq_true.1 hdst o' (by rw [← Array.getElem?_toList] at ho; exact List.mem_of_getElem? ho)
    rw [hx] at this; simpa using this
  -- the state behind
  have after : ∀ (C' : Ctx) (u : Value), Ext C C' → Hp K C' → Vl C' (val i) u → C'.H = upd1 (up i) C.H → DInv E ops p fr hp val up K (listed.setIfInBounds i true) C' (a.put o'.dst u) := by
    intro C' u e hp2 hv hH
    have hS' : ∀ k, (listed.setIfInBounds i true).getD k false = if k = i then true else listed.getD k false := fun k => by
      by_cases h : k = i
      · subst h; simp [hil]
      · rw [getD_set_ne false (fun h' => h h'.symm), if_neg h]
    have dsti : dstOf ops i = o'.dst := by simp [dstOf, ho]
    refine { sz := by simpa using inv.sz, closed := fun k hk j hj => ?_, hp' := hp2, tm := ?_, mks := ?_, slots := fun t => ?_, len := ?_, heap := fun j hj => ?_ }
    · rw [hS'] at hk ⊢
      by_cases hki : k = i
      · subst hki
        by_cases hjk : j = k
        · simp [hjk]
        · rw [if_neg hjk]; exact hdep j hj
      · rw [if_neg hki] at hk
        by_cases hji : j = i
        · simp [hji]
        · rw [if_neg hji]; exact inv.closed k hk j hj
    · cases o'.dst <;> simp [Act.put, inv.tm]
    · cases hq : o'.dst <;> exact inv.mks.mono e
    · by_cases hdt : o'.dst = some t
      · have hvt : (a.put o'.dst u).tmps.getD t undef = u := by
          rw [hdt]
          have := hdN t hdt
          simp [Act.put, inv.tm, this]
        rw [hvt]
        have : sl (dstOf ops) val (fun k => (listed.setIfInBounds i true).getD k false) (ev (fr 0) (.tmp t)) t ops.size = val i := by
          rw [sl_cut (i + 1) (fun k h1 h2 h3 => ?_) (by omega)]
          · simp only [sl]
            rw [if_pos ⟨by rw [hS']; simp, by rw [dsti]; exact hdt⟩]
          · rw [hS', if_neg (by omega)]
            have hq : ops[k]? = some ops[k] := Array.getElem?_eq_getElem h2
            have hdk' : ops[k].dst = some t := by simpa [dstOf, hq] using h3
            rcases pair_of hok ho hq (by omega) with h4 | h4 | h4
            · have := plan_lt hok ho k h4; omega
            · exact hdep' k h4
            · exact absurd hdt (h4.1 t hdk').2
        rw [this]; exact hv
      · have hvt : (a.put o'.dst u).tmps.getD t undef = a.tmps.getD t undef := by
          cases hq : o'.dst with
          | none => rfl
          | some d' =>
            have : d' ≠ t := fun h => hdt (by rw [hq, h])
            simp [Act.put, Array.getElem?_setIfInBounds_ne this]
        rw [hvt]
        have : sl (dstOf ops) val (fun k => (listed.setIfInBounds i true).getD k false) (ev (fr 0) (.tmp t)) t ops.size = sl (dstOf ops) val (fun k => listed.getD k false) (ev (fr 0) (.tmp t)) t ops.size := by
          refine sl_congr fun k hk hdk => ?_
          rw [hS', if_neg]
          intro hki
          rw [hki, dsti] at hdk
          exact hdt hdk
        rw [this]
        exact (inv.slots t).mono e
    · rw [hH, ← inv.len]
      cases up i with
      | none => rfl
      | some q => simp [upd1]
    · have hjl : j < C.H.length := by
        rw [hH] at hj
        cases hu : up i with
        | none => rw [hu] at hj; exact hj
        | some q => rw [hu] at hj; simpa [upd1] using hj
      rw [hH, upd1_get _ _ _ hjl]
      have noti : ∀ k q, k < ops.size → up k = some (j, q) → k ≠ i → (∃ q', up i = some (j, q')) → i < k → listed.getD k false = false := fun k q hk huk hki ⟨q', hui⟩ hik => by
        obtain ⟨ok, dk⟩ := hd k hk
        rcases pair_of hok ho dk.ho hki with h1 | h1 | h1
        · have := plan_lt hok ho k h1; omega
        · exact hdep' k h1
        · exact absurd (d.wr j q' hui).2 (h1.2.1 j (dk.wr j q huk).1)
      cases hu : up i with
      | none =>
        simp only
        rw [inv.heap j hjl]
        refine ob_congr fun k q hk huk => ?_
        rw [hS', if_neg]
        intro hki; rw [hki, hu] at huk; cases huk
      | some q =>
        obtain ⟨k0, q0⟩ := q
        simp only
        by_cases hkj : k0 = j
        · subst hkj
          rw [if_pos rfl, ob_cut (i + 1) (fun k q h1 h2 h3 => ?_) (by omega)]
          · simp only [ob, hu]
            rw [if_pos ⟨by rw [hS']; simp, trivial⟩]
          · rw [hS', if_neg (by omega)]
            exact noti k q h2 h3 (by omega) ⟨q0, hu⟩ (by omega)
        · rw [if_neg hkj, inv.heap j hjl]
          refine ob_congr fun k q hk huk => ?_
          rw [hS', if_neg]
          intro hki; rw [hki, hu] at huk; cases huk; exact hkj rfl
  simp only [wpOpIn, ho]
  rw [hw]
  cases hwi : w i with
  | true =>
    simp only [if_true]
    have hmsk : C.H = msk (p.ksOf i) (fun j => (C.H[j]?).getD .dead) 0 (hp i) := by
      apply List.ext_getElem?
      intro j
      rw [msk_get]
      rcases Nat.lt_or_ge j C.H.length with hjl | hjl
      · have hl2 : j < (hp i).length := by rw [hp_len hd i (by omega), ← inv.len]; exact hjl
        rw [List.getElem?_eq_getElem hl2]
        simp only [Option.map_some, Nat.zero_add]
        by_cases hk : j ∈ p.ksOf i
        · rw [if_pos hk, heapA j hk hjl, List.getElem?_eq_getElem hl2]
        · rw [if_neg hk, List.getElem?_eq_getElem hjl]; rfl
      · have hl2 : (hp i).length ≤ j := by rw [hp_len hd i (by omega), ← inv.len]; exact hjl
        rw [List.getElem?_eq_none hjl, List.getElem?_eq_none hl2]; rfl
    have hst := d.st hwi (fun j => (C.H[j]?).getD .dead)
    rw [← hmsk] at hst
    refine Oper.wpIn_mono' ?_ (opd_run hst hno hG inv.hp' hfr rfl Q')
    rintro a' w' ⟨u, C', rfl, rfl, g1, g2, g3, g4⟩
    exact hK C' _ (after C' u g1 g2 g3 g4)
  | false =>
    simp only [Bool.false_eq_true, if_false]
    obtain ⟨e1, e2⟩ := d.off hwi
    exact ⟨fun _ _ => trivial, hK C _ (after C undef (Ext.refl C) inv.hp' (by rw [e1]; exact .raw _) (by rw [e2]; rfl))⟩

theorem ready_all {md : Region.Mode} (hmd : md = .any) (hok : p.ok ops = true) {listed : Array Bool} (hsz : listed.size = ops.size) (hr : Region.ready md ops listed = []) : ∀ i, i < ops.size → listed.getD i false = true := by
  subst hmd
  intro i
  induction i using Nat.strongRecOn with
  | _ i ih =>
    intro hi
    cases hS : listed.getD i false with
    | true => rfl
    | false =>
      exfalso
      have ho : ops[i]? = some ops[i] := Array.getElem?_eq_getElem hi
      have hil : i < listed.size := by omega
      have : i ∈ Region.ready .any ops listed := mem_ready.2 ⟨by simpa [hil] using hS, ops[i], ho, fun e he hb => by
        have := (Plan.at hok ho).on e he hb
        exact ih e.on this (by omega)⟩
      rw [hr] at this; cases this

theorem draw_any (hok : p.ok ops = true) (hdst : dstOk E.N ops.toList = true) (hnd : ops.toList.all (fun o => noDefer o.op) = true) (hd : ∀ k, k < ops.size → ∃ o, Data E ops p fr hp val up w k o) {K : Kon} (hG : K.G = E.G)
    (Q' : Exit → Act → World → Prop) (hQ : ∀ C a, St K C E.N (fr ops.size) a → C.H = hp ops.size → Q' .normal a C.w) : ∀ (fuel : Nat) (listed : Array Bool) (C : Ctx) (a : Act), DInv E ops p fr hp val up K listed C a →
      (List.range ops.size).countP (fun i => !listed.getD i true) ≤ fuel → wpAnyIn (rnd K.rb) 0 E.P .any ops Q' fuel listed a C.w := by
  have fin : ∀ (listed : Array Bool) (C : Ctx) (a : Act), DInv E ops p fr hp val up K listed C a → (∀ i, i < ops.size → listed.getD i false = true) → Q' .normal a C.w := by
    intro listed C a inv hall
    refine hQ C a { hp := inv.hp', size := inv.tm, fr := fun k x hx => ?_, marks := inv.mks } ?_
    · have e1 : ev (fr ops.size) (.tmp k) = x := by simp [ev, hx]
      rw [← e1, fr_sl hd k ops.size (Nat.le_refl _)]
      have : sl (dstOf ops) val (fun _ => true) (ev (fr 0) (.tmp k)) k ops.size = sl (dstOf ops) val (fun k => listed.getD k false) (ev (fr 0) (.tmp k)) k ops.size := sl_congr fun j hj _ => (hall j hj).symm
      rw [this]; exact inv.slots k
    · apply List.ext_getElem?
      intro j
      rcases Nat.lt_or_ge j C.H.length with hjl | hjl
      · rw [inv.heap j hjl, hp_ob hd j (by rw [← inv.len]; exact hjl) ops.size (Nat.le_refl _)]
        exact ob_congr fun k q hk _ => hall k hk
      · rw [List.getElem?_eq_none hjl, List.getElem?_eq_none (by rw [hp_len hd ops.size (Nat.le_refl _), ← inv.len]; exact hjl)]
  intro fuel
  induction fuel with
  | zero =>
    intro listed C a inv hc
    have hz : ∀ i, i < ops.size → listed.getD i false = true := fun i hi => by
      have := List.countP_eq_zero.1 (Nat.le_zero.1 hc) i (List.mem_range.2 hi)
      have hil : i < listed.size := by rw [inv.sz]; exact hi
      simpa [hil] using this
    refine ⟨?_, fin listed C a inv hz⟩
    cases hr : Region.ready .any ops listed with
    | nil => rfl
    | cons i rs =>
      exfalso
      have hi : i ∈ Region.ready .any ops listed := by rw [hr]; simp
      obtain ⟨h0, o, ho, _⟩ := mem_ready.1 hi
      have hin : i < ops.size := by
        rcases Nat.lt_or_ge i ops.size with h' | h'
        · exact h'
        · rw [Array.getElem?_eq_none h'] at ho; cases ho
      have hil : i < listed.size := by rw [inv.sz]; exact hin
      have := hz i hin
      have e : listed.getD i true = listed.getD i false := by simp [hil]
      rw [← e, h0] at this; cases this
  | succ fuel ih =>
    intro listed C a inv hc
    refine ⟨fun hr => fin listed C a inv (ready_all rfl hok inv.sz hr), fun i hi => ?_⟩
    refine draw_step rfl hok hdst hnd hd hG inv hi Q' _ (fun C' a' inv' => ih _ C' a' inv' ?_)
    obtain ⟨h0, o, ho, _⟩ := mem_ready.1 hi
    have hin : i < ops.size := by
      rcases Nat.lt_or_ge i ops.size with h' | h'
      · exact h'
      · rw [Array.getElem?_eq_none h'] at ho; cases ho
    have hil : i < listed.size := by rw [inv.sz]; exact hin
    have := countP_lt (p := fun j => !(listed.setIfInBounds i true).getD j true) (q := fun j => !listed.getD j true) (i := i) (List.range ops.size) (fun x hx => by
      by_cases h : x = i
      · subst h; simp [hil] at hx
      · rw [getD_set_ne true (fun h' => h h'.symm)] at hx; exact hx) (List.mem_range.2 hin) (by rw [h0]; rfl) (by simp [hil])
    omega
end

/-- A region whose order is drawn: it is enough to walk it in the order of its text. -/
theorem awp_draw {E : Env} {Q : Exit → Frm → Heap → Prop} {F : Frm} {H : Heap} {id : Nat} {ops : Array Oper} (p : Plan) (hm : E.P.follows .mixedOrders = true) (hd : dstOk E.N ops.toList = true ∧ ops.toList.all (fun o => noDefer o.op) = true) (hok : p.ok ops = true)
    {l : List Oper} (hl : ops.toList = l) (h : DOps E ops p (Q .normal) 0 l F H) : AWp E (.region id ops true) Q F H := by
  intro K C a h1 h2 h3 h4 h5
  subst h5 hl
  obtain ⟨fr, hp, val, up, w, e1, e2, e3, e4⟩ := dops_data ops.toList 0 F C.H h (fun j => by simp) (by simp)
  subst e1
  have hdata : ∀ k, k < ops.size → ∃ o, Data E ops p fr hp val up w k o := fun k hk => e4 k (by omega) hk
  refine wpIn_region_any hm ?_
  obtain ⟨x1, x2⟩ := h4.hp.world { C.w with drawn := C.w.drawn + 1 } rfl rfl rfl (Nat.le_refl _) (fun _ _ => rfl)
  refine draw_any hok hd.1 hd.2 hdata h3 (post K E.N Q) (fun C' a' hst hH => ⟨_, C', rfl, hst, by rw [hH]; exact e3⟩) ops.size (Array.replicate ops.size false) { C with w := { C.w with drawn := C.w.drawn + 1 } } a ?_ (by simpa using List.countP_le_length (p := _) (l := List.range ops.size))
  have hS : ∀ k, (Array.replicate ops.size false).getD k false = false := fun k => by
    simp [Array.getD]
  refine { sz := by simp, closed := fun i hi => (by rw [hS] at hi; cases hi), hp' := x2, tm := h4.size, mks := h4.marks.mono x1, slots := fun t => ?_, len := by rw [e2], heap := fun j hj => ?_ }
  · have : sl (dstOf ops) val (fun k => (Array.replicate ops.size false).getD k false) (ev (fr 0) (.tmp t)) t ops.size = ev (fr 0) (.tmp t) := by
      rw [sl_cut 0 (fun k _ _ _ => hS k) (by omega)]; rfl
    rw [this]
    exact (ev_ok (a := a) h4.fr (.tmp t)).mono x1
  · have : ob up (fun k => (Array.replicate ops.size false).getD k false) ((hp 0)[j]?) j ops.size = (hp 0)[j]? := by
      rw [ob_cut 0 (fun k _ _ _ _ => hS k) (by omega)]; rfl
    rw [this, e2]
end Go.Ab
namespace Go.Ab
open Go

section
variable {E : Env} {ops : Array Oper} {pl : Plan} {Q : Frm → Heap → Prop} {i : Nat} {rest : List Oper} {F : Frm} {H H' : Heap} {op : Op} {d : Tmp} {t : TypeId} {p : String} {af : Array Edge} {g : Option (Nat × Bool)} {v : AV} {L : List Tmp} {ks : List Nat}

theorem d_nil (h : Q F H) : DOps E ops pl Q i [] F H := h

/-- One operation that turns nothing. -/
theorem d_D (hL : pl.lksOf i = L) (hK : pl.ksOf i = ks) (hg : gd ops (restr F L) g = some true) (h : ∀ y, OpD E ⟨some d, op, t, p, af, g⟩ (restr F L) (msk ks y 0 H) v (msk ks y 0 H)) (k : DOps E ops pl Q (i + 1) rest ((d, v) :: F) H) :
    DOps E ops pl Q i (⟨some d, op, t, p, af, g⟩ :: rest) F H := by
  subst hL hK
  exact ⟨true, hg, fun _ => ⟨v, none, H, h, rfl, k⟩, fun h => (by cases h)⟩
theorem d_op (hL : pl.lksOf i = L) (hK : pl.ksOf i = ks) (hg : gd ops (restr F L) g = some true) (h : ∀ y, OpOk E.P op (restr F L) (msk ks y 0 H) v (msk ks y 0 H)) (k : DOps E ops pl Q (i + 1) rest ((d, v) :: F) H) :
    DOps E ops pl Q i (⟨some d, op, t, p, af, g⟩ :: rest) F H := d_D hL hK hg (fun y => .op (h y).g) k
theorem d_opg (hL : pl.lksOf i = L) (hK : pl.ksOf i = ks) (hg : gd ops (restr F L) g = some true) (h : ∀ y, OpG E.P E.G op (restr F L) (msk ks y 0 H) v (msk ks y 0 H)) (k : DOps E ops pl Q (i + 1) rest ((d, v) :: F) H) :
    DOps E ops pl Q i (⟨some d, op, t, p, af, g⟩ :: rest) F H := d_D hL hK hg (fun y => .op (h y)) k
/-- One that turns an object. -/
theorem d_w {j : Nat} {ob : AObj} (hL : pl.lksOf i = L) (hK : pl.ksOf i = ks) (hg : gd ops (restr F L) g = some true) (h : ∀ y, OpOk E.P op (restr F L) (msk ks y 0 H) v ((msk ks y 0 H).set j ob)) (hw : pl.wrOf i = some j) (hk : ks.contains j = true) (hH : setX H j ob = some H')
    (k : DOps E ops pl Q (i + 1) rest ((d, v) :: F) H') : DOps E ops pl Q i (⟨some d, op, t, p, af, g⟩ :: rest) F H := by
  subst hL hK
  exact ⟨true, hg, fun _ => ⟨v, some (j, ob), H', fun y => .op (h y).g, ⟨hw, by simpa using hk, (setX_eq _ _ _ _ hH).2⟩, k⟩, fun h => (by cases h)⟩
theorem d_w0 {j : Nat} {ob : AObj} (hL : pl.lksOf i = L) (hK : pl.ksOf i = ks) (hg : gd ops (restr F L) g = some true) (h : ∀ y, OpOk E.P op (restr F L) (msk ks y 0 H) v ((msk ks y 0 H).set j ob)) (hw : pl.wrOf i = some j) (hk : ks.contains j = true) (hH : setX H j ob = some H')
    (k : DOps E ops pl Q (i + 1) rest F H') : DOps E ops pl Q i (⟨none, op, t, p, af, g⟩ :: rest) F H := by
  subst hL hK
  exact ⟨true, hg, fun _ => ⟨v, some (j, ob), H', fun y => .op (h y).g, ⟨hw, by simpa using hk, (setX_eq _ _ _ _ hH).2⟩, k⟩, fun h => (by cases h)⟩
theorem d_off (hL : pl.lksOf i = L) (hg : gd ops (restr F L) g = some false) (k : DOps E ops pl Q (i + 1) rest ((d, .raw undef) :: F) H) : DOps E ops pl Q i (⟨some d, op, t, p, af, g⟩ :: rest) F H := by
  subst hL
  exact ⟨false, hg, fun h => (by cases h), fun _ => k⟩
theorem d_off0 (hL : pl.lksOf i = L) (hg : gd ops (restr F L) g = some false) (k : DOps E ops pl Q (i + 1) rest F H) : DOps E ops pl Q i (⟨none, op, t, p, af, g⟩ :: rest) F H := by
  subst hL
  exact ⟨false, hg, fun h => (by cases h), fun _ => k⟩
theorem d_if {q : Prop} [Decidable q] (hL : pl.lksOf i = L) (hK : pl.ksOf i = ks) (hg : gd ops (restr F L) g = some true) (h : ∀ y, OpOk E.P op (restr F L) (msk ks y 0 H) (.raw (.bool (decide q))) (msk ks y 0 H))
    (kt : q → DOps E ops pl Q (i + 1) rest ((d, .raw (.bool true)) :: F) H) (kf : ¬ q → DOps E ops pl Q (i + 1) rest ((d, .raw (.bool false)) :: F) H) : DOps E ops pl Q i (⟨some d, op, t, p, af, g⟩ :: rest) F H := by
  refine d_op hL hK hg h ?_
  by_cases hq : q
  · rw [show decide q = true from decide_eq_true hq]; exact kt hq
  · rw [show decide q = false from decide_eq_false hq]; exact kf hq
theorem d_ifb {b : Bool} (hL : pl.lksOf i = L) (hK : pl.ksOf i = ks) (hg : gd ops (restr F L) g = some true) (h : ∀ y, OpOk E.P op (restr F L) (msk ks y 0 H) (.raw (.bool b)) (msk ks y 0 H))
    (kt : b = true → DOps E ops pl Q (i + 1) rest ((d, .raw (.bool true)) :: F) H) (kf : b = false → DOps E ops pl Q (i + 1) rest ((d, .raw (.bool false)) :: F) H) : DOps E ops pl Q i (⟨some d, op, t, p, af, g⟩ :: rest) F H := by
  refine d_op hL hK hg h ?_
  cases b
  · exact kf rfl
  · exact kt rfl

variable {c : Operand} {xs : Array Operand} {tys : Array TypeId} {f : FuncId} {first caps vs vs' : List AV} {r : AV}
theorem d_pure (hL : pl.lksOf i = L) (hg : gd ops (restr F L) g = some true) (hc : evx (restr F L) c = some (.fn f first caps)) (hx : evs (restr F L) xs.toList = some vs) (hca : callable E.P f = true)
    (h : PureCall E.P E.G f (first ++ vs ++ caps) r) (k : DOps E ops pl Q (i + 1) rest ((d, r) :: F) H) :
    DOps E ops pl Q i (⟨some d, .call { callee := .value c, args := xs, argTypes := tys }, t, p, af, g⟩ :: rest) F H :=
  d_D hL rfl hg (fun y => .call c xs tys f first caps vs rfl hc hx hca (CallS.pure h.pargs (R := (· = r)) (fun _ e => e ▸ h.res) h.call _)) k
theorem d_pureb {b : Bool} (hL : pl.lksOf i = L) (hg : gd ops (restr F L) g = some true) (hc : evx (restr F L) c = some (.fn f first caps)) (hx : evs (restr F L) xs.toList = some vs) (hca : callable E.P f = true)
    (h : PureCall E.P E.G f (first ++ vs ++ caps) (.raw (.bool b))) (kt : b = true → DOps E ops pl Q (i + 1) rest ((d, .raw (.bool true)) :: F) H) (kf : b = false → DOps E ops pl Q (i + 1) rest ((d, .raw (.bool false)) :: F) H) :
    DOps E ops pl Q i (⟨some d, .call { callee := .value c, args := xs, argTypes := tys }, t, p, af, g⟩ :: rest) F H := by
  refine d_pure hL hg hc hx hca h ?_
  cases b
  · exact kf rfl
  · exact kt rfl
theorem d_lend (hL : pl.lksOf i = L) (hK : pl.ksOf i = ks) (hg : gd ops (restr F L) g = some true) (hc : evx (restr F L) c = some (.fn f first caps)) (hx : evs (restr F L) xs.toList = some vs) (hca : callable E.P f = true)
    (h : PureCall E.P E.G f vs' r) (hrs : ∀ y, RsL (msk ks y 0 H) (fun _ => False) (first ++ vs ++ caps) vs') (hf : Flt r) (k : DOps E ops pl Q (i + 1) rest ((d, r) :: F) H) :
    DOps E ops pl Q i (⟨some d, .call { callee := .value c, args := xs, argTypes := tys }, t, p, af, g⟩ :: rest) F H :=
  d_D hL hK hg (fun y => .call c xs tys f first caps vs rfl hc hx hca (CallS.lend (R := (· = r)) (hrs y).len (hrs y).get (fun _ e => e ▸ hf) h.call)) k
end

section
variable {P : Program} {F : Frm} {H H' : Heap} {x y a : Operand} {t e : TypeId} {v u : AV}
theorem o_stD {N i off : Nat} {cs r : List AV} (hs : tsize P t = some (N + 1)) (hx : evx F x = some v) (hN : v.cells.length = N + 1) (hg : v.goodPart H = true) (ha : evx F a = some (.ptr i off)) (hc : nthX H i = some (.var cs)) (hr : setsX cs off v.cells = some r) :
    OpOk P (.store t a x) F H (.raw undef) (H.set i (.var r)) := by
  refine ok_store (by rw [evx_eq hx, hN]; exact hs) (by rw [evx_eq hx]; exact hg) ?_
  rw [evx_eq hx, evx_eq ha]
  rw [nthX_eq] at hc
  obtain ⟨h1, rfl⟩ := setsX_eq _ _ _ _ hr
  simp only [wrCells, hc]
  rw [if_pos]
  rcases h1 with h | h
  · rw [h] at hN; simp at hN
  · exact h
theorem o_apD {q ver len z bytes ver' len' : Nat} {zs : List Value} {x0 : AV} {es new out : List AV} (he : ElemOk P t e z zs x0 bytes) (hs : evx F x = some (.slo q ver 0 len)) (hH : H[q]? = some (.vec z ver es)) (hlen : len = es.length) (hy : evx F y = some v) (hnew : srcElems H z v = some new)
    (hg : new.all (AV.goodPart H) = true) (hb : (es.length + new.length) * bytes ≤ 140737488355328) (h63 : es.length + new.length ≤ 9223372036854775807) (hver : ver + 1 = ver') (hlen' : len + new.length = len') (hout : es ++ new = out) :
    OpOk P (.call { callee := .builtin .append, args := #[x, y], argTypes := #[t, t] }) F H (.slo q ver' 0 len') (H.set q (.vec z ver' out)) := by
  subst hver hlen' hout
  exact ok_append_slo (P := P) (F := F) (H := H) (s := x) (x := y) (t := t) he.ht he.hz he.hby he.hzero he.hzl (evx_eq hs) hH hlen (by rw [evx_eq hy]; exact hnew) hg hb h63
end
end Go.Ab

namespace Go.Ab
open Go
section
variable {P : Program} {F : Frm} {H : Heap} {x y : Operand} {t t' : TypeId} {k k' : IntKind} {m n : Int}
theorem o_shr1 (hx : evx F x = some (.raw (.int k m))) (hy : evx F y = some (.raw (.int k' 1))) : OpOk P (.binOp .shr t x y t') F H (.raw (.int k (m / 2))) H := by
  have := o_shr (P := P) (H := H) (t := t) (t' := t') hx hy (by decide)
  have e : min (1 : Int).toNat k.bits = 1 := by cases k <;> decide
  rw [e] at this; exact this
theorem and_one (k : IntKind) (m : Int) (h0 : 0 ≤ m) (h1 : m ≤ khi k) : k.wrap (BitVec.ofInt k.bits m &&& BitVec.ofInt k.bits 1).toNat = m % 2 := by
  obtain ⟨n, rfl⟩ : ∃ n : Nat, m = n := ⟨m.toNat, by omega⟩
  have h2 : (BitVec.ofInt k.bits (n : Int) &&& BitVec.ofInt k.bits 1).toNat = n % 2 := by
    rw [BitVec.toNat_and]
    have e1 : (BitVec.ofInt k.bits 1).toNat = 1 := by cases k <;> rfl
    have e2 : (BitVec.ofInt k.bits (n : Int)).toNat % 2 = n % 2 := by
      rw [BitVec.toNat_ofInt]
      cases k <;> simp [IntKind.bits] <;> omega
    rw [e1, Nat.and_one_is_mod, e2]
  rw [h2, wrap_id (by cases k <;> simp [klo, khi] <;> omega)]
  omega
theorem o_and1 (hx : evx F x = some (.raw (.int k m))) (hy : evx F y = some (.raw (.int k 1))) (h0 : 0 ≤ m) (h1 : m ≤ khi k) : OpOk P (.binOp .and t x y t') F H (.raw (.int k (m % 2))) H :=
  o_bin hx hy (by simp only [rawBin, if_pos, and_one k m h0 h1])
end
end Go.Ab
namespace Go.Ab
open Go

/-! ### own memory behind a bound is let go -/
/-- Slot by slot. -/
def RsFr (H : Heap) (keep : Nat → Prop) (F : Frm) : Frm → Prop
  | [] => True
  | (k, x) :: F1 => (∃ y, evx F (.tmp k) = some y ∧ Rs H keep y x) ∧ RsFr H keep F F1
theorem RsFr.get {H : Heap} {keep : Nat → Prop} {F : Frm} : ∀ {F1 : Frm}, RsFr H keep F F1 → ∀ k x, F1.lookup k = some x → Rs H keep (ev F (.tmp k)) x
  | [], _, k, x, h => by simp at h
  | (k', x') :: F1, h, k, x, hl => by
    simp only [List.lookup_cons] at hl
    split at hl
    · rename_i hk
      have : k = k' := by simpa using hk
      subst this
      cases hl
      obtain ⟨y, h1, h2⟩ := h.1
      rw [evx_eq h1]; exact h2
    · exact RsFr.get h.2 k x hl

/-- Object by object. -/
def ORsL (H : Heap) (keep : Nat → Prop) : Heap → Heap → Prop
  | _, [] => True
  | [], _ :: _ => False
  | o :: l, o' :: l' => ORs H keep o o' ∧ ORsL H keep l l'
theorem ORsL.get {H : Heap} {keep : Nat → Prop} : ∀ {l l' : Heap}, ORsL H keep l l' → ∀ (i : Nat) (o o' : AObj), l[i]? = some o → l'[i]? = some o' → ORs H keep o o'
  | _, [], _, i, o, o', _, h => by simp at h
  | [], _ :: _, h, _, _, _, _, _ => h.elim
  | o :: l, o' :: l', h, 0, _, _, h1, h2 => by simp at h1 h2; subst h1; subst h2; exact h.1
  | o :: l, o' :: l', h, i + 1, _, _, h1, h2 => ORsL.get h.2 i _ _ (by simpa using h1) (by simpa using h2)
theorem ors_var {H : Heap} {keep : Nat → Prop} {cs cs' : List AV} (h : RsL H keep cs cs') : ORs H keep (.var cs) (.var cs') := .var h.len h.get
theorem ors_loop {H : Heap} {keep : Nat → Prop} {l : LoopA} {F' : Frm} (h : RsFr H keep l.F F') : ORs H keep (.loopo l) (.loopo { l with F := F' }) := .loopo h.get
theorem ors_vec {H : Heap} {keep : Nat → Prop} {z ver : Nat} {es : List AV} (h : ∀ x ∈ es, Pur x) : ORs H keep (.vec z ver es) (.vec z ver es) :=
  .vec rfl (fun k x x' h1 h2 => by rw [h1] at h2; cases h2; rfl) (fun k x x' h1 h2 => by rw [h1] at h2; cases h2; exact (h x (mem_get h1)).rs)

theorem w_view {E : Env} {c : Code} {Q : Exit → Frm → Heap → Prop} {F : Frm} {H : Heap} (F1 : Frm) (H1 : Heap) (n : Nat) (hn : H1.length = n) (h0 : E.n0 ≤ n) (hle : n ≤ H.length) (hF : RsFr H (· < n) F F1) (hO : ORsL H (· < n) H H1) (h : AWp E c Q F1 H1) : AWp E c Q F H := by
  refine awp_view (· < n) (F' := F1) (H' := H1) ?_ h
  exact
    { fr := hF.get
      len := by omega
      low := by omega
      k0 := fun i hi => by omega
      dead := fun i hi => .inl (by omega)
      lt := fun i hi => by omega
      obj := fun i o o' _ h1 h2 => hO.get i o o' h1 h2 }

/-- The answer of a round. -/
theorem q_next {i : Nat} {K' : AV → Heap → Prop} {F : Frm} {H : Heap} {l : LoopA} (hi : nthX H i = some (.loopo l)) {H' : Heap} (hs : setX H i (.loopo { l with state := .ready, pending := none }) = some H') (h : K' (.raw (.bool true)) H') : roundQ i K' .normal F H := by
  obtain ⟨_, rfl⟩ := setX_eq _ _ _ _ hs
  exact ⟨l, (nthX_eq _ _).symm.trans hi, h⟩

/-- yield, as a step. -/
theorem a_yield {E : Env} {ops : Array Oper} {Q : Frm → Heap → Prop} {rest : List Oper} {F : Frm} {H : Heap} {d : Tmp} {t : TypeId} {p : String} {af : Array Edge} {g : Option (Nat × Bool)} {c : Operand} {xs : Array Operand} {tys : Array TypeId} {i N : Nat} {l : LoopA} {vs : List AV}
    (hg : gd ops F g = some true) (hc : evx F c = some (.yl i)) (hx : evs F xs.toList = some vs) (hi : nthX H i = some (.loopo l)) (hs : l.state = .ready) (hsz : xs.size = l.params.size) (hp : l.params.toList.all (· < l.N) = true) (hN : H.length = N)
    (h : AWp ⟨E.P, E.G, N, l.N, true⟩ l.assign (thenQ (fun F2 H2 => ∃ l2, nthX H2 i = some (.loopo l2) ∧ l2.state = .ready ∧ l2.body = l.body ∧ ∃ H3, setX H2 i (.loopo { l2 with state := .busy }) = some H3 ∧
        AWp ⟨E.P, E.G, N, l.N, true⟩ l.body (roundQ i (fun v H' => AOps E ops Q rest ((d, v) :: F) H')) F2 H3) (fun _ _ _ => False)) (putAll l.F l.params.toList vs) H) :
    AOps E ops Q (⟨some d, .call { callee := .value c, args := xs, argTypes := tys }, t, p, af, g⟩ :: rest) F H := by
  subst hN
  refine a_step hg (.yield c xs tys i l rfl (evx_eq hc) ((nthX_eq _ _).symm.trans hi) hs hsz hp ?_)
  rw [evs_eq hx]
  refine awp_mono h fun e F2 H2 he => ?_
  cases e with
  | normal =>
    obtain ⟨l2, h1, h2, h3, H3, h4, h5⟩ := he
    obtain ⟨_, rfl⟩ := setX_eq _ _ _ _ h4
    exact ⟨l2, (nthX_eq _ _).symm.trans h1, h2, h3, h5⟩
  | _ => exact he

/-- What follows a range over a function that came to its end. -/
theorem after_end {E : Env} {Q : Exit → Frm → Heap → Prop} {F : Frm} {i : Nat} {H H' : Heap} {l : LoopA} (hi : nthX H i = some (.loopo l)) (hs : l.state = .ready) (hp : l.pending = none) (hH : setX H i (.loopo { l with state := .exhausted }) = some H') (h : Q .normal F H') : afterLoop E Q F i H := by
  obtain ⟨_, rfl⟩ := setX_eq _ _ _ _ hH
  obtain ⟨st, pe, F0, N, ps, as, bd⟩ := l
  dsimp only at hs hp
  subst hs hp
  exact ⟨_, (nthX_eq _ _).symm.trans hi, (fun h => nomatch h), h⟩
end Go.Ab
namespace Go.Ab
open Go
section
variable {P : Program} {F : Frm} {H H' : Heap} {x i : Operand} {t : TypeId} {k : IntKind} {n : Int}
theorem o_sx {s : ByteArray} {j : Nat} {b : UInt8} (ht : lenTy P t = some 1) (hx : evx F x = some (.raw (.string s))) (hi : evx F i = some (.raw (.int k n))) (hn : n = (j : Int)) (hj : s[j]? = some b) : OpOk P (.index t x i) F H (.raw (.int .u8 (b.toNat : Int))) H :=
  .still fun K C ρ oo ho hp hH hρ => by
    subst hn
    have h1 : ρ x = .string s := Vl.raw_inv (evx_eq hx ▸ hρ x)
    have h2 : ρ i = .int k j := Vl.raw_inv (evx_eq hi ▸ hρ i)
    have hu : P.underlying t = some .string := by unfold lenTy at ht; split at ht <;> simp at ht; assumption
    refine ⟨.int .u8 (b.toNat : Int), ?_, .raw _⟩
    have h0 : (0 : Int) ≤ (j : Int) := by omega
    simp only [execOp, ho, h1, h2, Instr.index, asIntOf, Sem.run_bind, Sem.run_pure, Result.andThen_ok, run_underlying hu, h0, if_true, Int.toNat_natCast, hj]

/-- A nil slice is taken for an own row. -/
theorem w_own {E : Env} {c : Code} {Q : Exit → Frm → Heap → Prop} {q z N : Nat} (hz : 0 < z) (hk : evx F (.tmp q) = some (.raw (.slice none 0 0))) (hN : H.length = N) (hH : snocX H (.vec z 0 []) = some H') (h : AWp E c Q ((q, .slo N 0 0 0) :: F) H') : AWp E c Q F H := by
  intro K C a h1 h2 h3 h4 h5
  subst h5 hN
  obtain ⟨C', e1, e2, e3, e4, e5⟩ := push_nil h4.hp hz
  rw [← e1]
  refine h K C' a h1 h2 h3 { hp := e3, size := h4.size, fr := fun k x hx => ?_, marks := h4.marks.mono e2 } (by rw [e5, snocX_eq _ _ _ hH])
  simp only [List.lookup_cons] at hx
  split at hx
  · rename_i hkq
    have : k = q := by simpa using hkq
    subst this
    cases hx
    have hv : a.eval (.tmp k) = .slice none 0 0 := Vl.raw_inv (evx_eq hk ▸ ev_ok h4.fr (.tmp k))
    have : a.tmps.getD k undef = .slice none 0 0 := hv
    rw [this]; exact e4
  · exact (h4.fr k x hx).mono e2

/-- A cell of an own variable that holds a nil slice is taken for an own row. -/
theorem w_ownc {E : Env} {c : Code} {Q : Exit → Frm → Heap → Prop} {i j z N : Nat} {cs cs' : List AV} {H1 H2 : Heap} (hz : 0 < z) (hi : nthX H i = some (.var cs)) (hj : nthX cs j = some (.raw (.slice none 0 0))) (hN : H.length = N) (hH : snocX H (.vec z 0 []) = some H1)
    (hcs : setX cs j (.slo N 0 0 0) = some cs') (hH2 : setX H1 i (.var cs') = some H2) (h : AWp E c Q F H2) : AWp E c Q F H := by
  intro K C a h1 h2 h3 h4 h5
  subst h5 hN
  obtain ⟨C', e1, e2, e3, e4, e5⟩ := push_nil h4.hp hz
  obtain ⟨hjl, rfl⟩ := setX_eq _ _ _ _ hcs
  have hH1 := snocX_eq _ _ _ hH
  obtain ⟨hil, rfl⟩ := setX_eq _ _ _ _ hH2
  rw [nthX_eq] at hi hj
  have hi0 := get_lt hi
  have hi' : C'.H[i]? = some (.var cs) := by rw [e5, List.getElem?_append_left hi0]; exact hi
  have hil' := get_lt hi'
  obtain ⟨b, cv, t, g1, g2, g3, g4⟩ := e3.obj i _ hi'
  have := e3.upd C'.w i hil' (.var (cs.set j (.slo C.H.length 0 0 0))) (C'.β i) (C'.κ i) rfl rfl rfl (Nat.le_refl _) (fun _ _ _ => rfl) (.inl rfl) _ rfl (by rw [hi'])
    (fun ex => ⟨b, cv, t, by simp [g1], g2, by simp [g3], fun k x hx => by
      by_cases hk : k = j
      · subst hk
        have hlt := get_lt hj
        rw [List.getElem?_set_self hlt] at hx
        cases hx
        have h5 : cv.getD k undef = .slice none 0 0 := Vl.raw_inv (g4 k _ hj)
        rw [h5]; exact e4.mono ex
      · rw [List.getElem?_set_ne (fun h => hk h.symm)] at hx
        exact (g4 k x hx).mono ex⟩)
  obtain ⟨x1, x2⟩ := this
  rw [← e1]
  exact h K { C' with w := C'.w, H := C'.H.set i (.var (cs.set j (.slo C.H.length 0 0 0))), β := fun k => if k = i then C'.β i else C'.β k, κ := fun k => if k = i then C'.κ i else C'.κ k } a h1 h2 h3
    { hp := x2, size := h4.size, fr := (h4.fr.mono e2).mono x1, marks := (h4.marks.mono e2).mono x1 } (by show C'.H.set _ _ = _; rw [e5, hH1])

theorem good_slo {H : Heap} {i ver off len z : Nat} {es : List AV} (h : nthX H i = some (.vec z ver es)) : (AV.slo i ver off len).goodPart H = true := by
  rw [nthX_eq] at h
  simp [AV.goodPart, AV.good, AV.isCell, fresh, h]

/-- Nil slices among the arguments, told as empty ones. -/
def NilL : List AV → List AV → Prop
  | [], [] => True
  | x :: xs, y :: ys => (x = y ∨ (x = .raw (.slice none 0 0) ∧ ∃ (z : Nat) (b : Fl), 0 < z ∧ y = .sl z b [])) ∧ NilL xs ys
  | _, _ => False
theorem NilL.args {C : Ctx} : ∀ {xs ys : List AV} (g : Nat → Value), NilL xs ys → (∀ (k : Nat) (x : AV), xs[k]? = some x → Vl C x (g k)) → ys.length = xs.length ∧ ∀ (k : Nat) (y : AV), ys[k]? = some y → Vl C y (g k)
  | [], [], g, _, _ => ⟨rfl, fun k y h => by simp at h⟩
  | [], _ :: _, g, h, _ => h.elim
  | _ :: _, [], g, h, _ => h.elim
  | x :: xs, y :: ys, g, h, hx => by
    obtain ⟨h1, h2⟩ := NilL.args (fun k => g (k + 1)) h.2 (fun k z hz => hx (k + 1) z (by simpa using hz))
    refine ⟨by simp [h1], fun k z hz => ?_⟩
    cases k with
    | succ k => exact h2 k z (by simpa using hz)
    | zero =>
      simp at hz; subst hz
      rcases h.1 with rfl | ⟨rfl, z, b, hz, rfl⟩
      · exact hx 0 _ rfl
      · have := hx 0 _ rfl
        have e : g 0 = .slice none 0 0 := Vl.raw_inv this
        rw [e]
        exact .sl (es := []) (fun _ => undef) hz (Nat.le_refl _) (fun _ => rfl) (fun _ => rfl) (fun e he => by cases he) (fun x hx => by cases hx) (fun _ x hx => by cases hx) (fun k x hx => by simp [flat] at hx)
theorem CallS.nils {G : List (Nat × List Value)} {f : FuncId} {args args' : List AV} {R : AV → Heap → Prop} (hn : NilL args args') (h : CallS P G f args' H R) : CallS P G f args H R :=
  fun K C vs h1 h2 h3 h4 => by
    have := hn.args (fun k => vs.getD k undef) h4.2
    exact h K C vs h1 h2 h3 ⟨by rw [this.1]; exact h4.1, this.2⟩
section
variable {E : Env} {ops : Array Oper} {Q : Frm → Heap → Prop} {rest : List Oper} {d : Tmp} {p : String} {af : Array Edge} {g : Option (Nat × Bool)} {c : Operand} {xs : Array Operand} {tys : Array TypeId} {f : FuncId} {first caps vs vs' : List AV} {r : AV}
theorem a_pureN (hg : gd ops F g = some true) (hc : evx F c = some (.fn f first caps)) (hx : evs F xs.toList = some vs) (hca : callable E.P f = true)
    (h : PureCall E.P E.G f vs' r) (hn : NilL (first ++ vs ++ caps) vs') (k : AOps E ops Q rest ((d, r) :: F) H) :
    AOps E ops Q (⟨some d, .call { callee := .value c, args := xs, argTypes := tys }, t, p, af, g⟩ :: rest) F H :=
  a_step hg (callP rfl hc hx hca (CallS.nils hn (CallS.pure h.pargs (R := (· = r)) (fun _ e => e ▸ h.res) h.call H)) (by rintro r H' ⟨rfl, rfl⟩; exact k))
theorem a_pureNb {b : Bool} (hg : gd ops F g = some true) (hc : evx F c = some (.fn f first caps)) (hx : evs F xs.toList = some vs) (hca : callable E.P f = true)
    (h : PureCall E.P E.G f vs' (.raw (.bool b))) (hn : NilL (first ++ vs ++ caps) vs') (kt : b = true → AOps E ops Q rest ((d, .raw (.bool true)) :: F) H) (kf : b = false → AOps E ops Q rest ((d, .raw (.bool false)) :: F) H) :
    AOps E ops Q (⟨some d, .call { callee := .value c, args := xs, argTypes := tys }, t, p, af, g⟩ :: rest) F H := by
  refine a_pureN hg hc hx hca h hn ?_
  cases b
  · exact kf rfl
  · exact kt rfl
end
end
end Go.Ab
namespace Go.Ab
open Go Go.ChangeShapes Go.WideShapes

/-! ## From a row's reading to a contract, and back -/
def C0 (W : World) : Ctx := { w := W, X := fun _ => False, L := fun _ => False, H := [], β := fun _ => none, κ := fun _ => 0 }
theorem c0_own {W : World} {b : Nat} : ¬ (C0 W).own b := fun ⟨i, hi, _⟩ => by simp [C0] at hi
theorem c0_bad {W : World} {b : Nat} : ¬ (C0 W).bad b := fun h => h.elim id c0_own

/-- What a table that is known holds. -/
def TabAt (W : World) (g : Nat) (cs : List Value) : Prop := 0 < cs.length ∧ ∀ k, k < cs.length → W.cell? ⟨g, k, none⟩ = some (cs.getD k undef)

theorem cell_block {W : World} {a : Addr} {v : Value} (h : W.cell? a = some v) : a.spot = none ∧ ∃ c e f, W.heap[a.block]? = some (.cells c e f) := by
  unfold World.cell? at h
  split at h
  · rename_i c e f hh
    split at h
    · cases h
    · rename_i hs
      exact ⟨by cases hq : a.spot <;> simp [hq] at hs ⊢, c, e, f, hh⟩
  · cases h

theorem c0_hp {W : World} {G : List (Nat × List Value)} (hG : ∀ g cs, (g, cs) ∈ G → TabAt W g cs) : Hp ⟨C0 W, G, none⟩ (C0 W) where
  X := rfl
  xown := fun b h _ => h
  xlt := fun b h => h.elim
  L := rfl
  lown := fun b h _ => h
  llt := fun b h => h.elim
  inj := fun i _ _ hi _ _ _ => by simp [C0] at hi
  lt := fun i _ hi _ => by simp [C0] at hi
  obj := fun i o h => by simp [C0] at h
  ext := Ext.refl _
  os := rfl
  tape := rfl
  output := rfl
  size := Nat.le_refl _
  same := fun _ _ _ => rfl
  ownn := fun b h => (c0_own h).elim
  glob := fun g cs hg => by
    obtain ⟨h0, h1⟩ := hG g cs hg
    obtain ⟨_, hb⟩ := cell_block (h1 0 h0)
    refine .rp (fun k => cs.getD k undef) c0_bad hb (fun k hk => by rw [Nat.zero_add]; exact h1 k (by simpa using hk)) (fun k x hx => ?_)
    simp only [List.getElem?_map, Option.map_eq_some_iff] at hx
    obtain ⟨y, hy, rfl⟩ := hx
    have : cs.getD k undef = y := by simp [List.getD, hy]
    rw [this]; exact .raw y

theorem pure_calls {P : Program} {G : List (Nat × List Value)} {f : FuncId} {args : List AV} {r : Value} {W : World} {vs : Array Value} (h : PureCall P G f args (.raw r)) (hG : ∀ g cs, (g, cs) ∈ G → TabAt W g cs) (ha : ArgsOk (C0 W) args vs) :
    Calls P f vs W (fun e w' => e = .returned r ∧ RowKit.Below W.heap.size W w') := by
  refine callsIn_wide.1 ((h.call (C0 W) vs rfl (c0_hp hG) ha).mono ?_)
  rintro e w' ⟨r', v, C', rfl, rfl, hp, hv, rfl, _⟩
  refine ⟨by rw [Vl.raw_inv hv], ?_⟩
  exact ⟨hp.os, hp.tape, hp.output, hp.size, fun k hk => hp.same k hk c0_own⟩

theorem args_one {C : Ctx} {a : AV} {v : Value} (h : Vl C a v) : ArgsOk C [a] #[v] := ⟨rfl, fun k x hx => by
  cases k with
  | zero => simp at hx; subst hx; exact h
  | succ k => simp at hx⟩
theorem args_cons {C : Ctx} {a : AV} {v : Value} {as : List AV} {vs : List Value} (h : Vl C a v) (hs : ArgsOk C as vs.toArray) : ArgsOk C (a :: as) (v :: vs).toArray := ⟨by simpa using hs.1, fun k x hx => by
  cases k with
  | zero => simp at hx; subst hx; exact h
  | succ k => have := hs.2 k x (by simpa using hx); simpa using this⟩
theorem args_nil {C : Ctx} : ArgsOk C [] (([] : List Value)).toArray := ⟨rfl, fun k x hx => by simp at hx⟩

section
variable {H : Type} {enc : TypeId × Value → H} {P : Program} {W : World} {spare : Nat → Bool} {held : Bool}

/-- A row of elements that are read one by one. -/
theorem vl_slice {α : Type} {r : Reach} {b0 : Nat} {t e : TypeId} {z : Nat} {v : Value} {d : DataW H} {ps : List MemPlace} (f : α → AV) (Pre : α → Prop) (hz : 0 < z) (ht : P.underlying t = some (.slice e)) (hc : P.cellsOf e = z)
    (hval : Value.okWide P W r b0 t v) (h : DataW.Trod enc P W 0 spare held t v d ps)
    (dec : ∀ n cs x, cs.length = z → DataW.trod enc P W 0 spare held n e cs = some x → ∃ a, Pre a ∧ (f a).cells.length = z ∧ ∀ k y, (f a).cells[k]? = some y → Vl (C0 W) y (cs.getD k undef)) :
    ∃ l : List α, (∀ a ∈ l, Pre a) ∧ l.length ≤ maxLen ∧ Vl (C0 W) (.sl z false (l.map f)) v := by
  obtain ⟨a0, len0, cap0, rfl⟩ := okWide_slice ht hval
  obtain ⟨fuel, h⟩ := h
  have hcells : (Value.slice a0 len0 cap0).cells.toList = [.slice a0 len0 cap0] := rfl
  rw [hcells] at h
  rcases Deep.open_slice ht h with ⟨h1, _⟩ | ⟨a, len, cap, m, n, D, Pl, h1, _, hlc, hcm, hm, _, hx⟩
  · cases h1
    exact ⟨[], by simp, by simp, .sl (es := []) (fun _ => undef) hz (Nat.le_refl _) (by simp) (fun _ => rfl) (fun e he => by cases he) (fun x hx => by cases hx) (fun _ x hx => by cases hx) (fun k x hx => by simp [flat] at hx)⟩
  · cases h1
    have hlm : len0 ≤ m := by rw [hm]; split <;> omega
    have each : ∀ i : Nat, ∃ a' : Option (α × List Value), i < len0 → ∃ x cs', a' = some (x, cs') ∧ W.cells? 0 (a.add (i * z)) z = some cs' ∧ Pre x ∧ (f x).cells.length = z ∧ ∀ k y, (f x).cells[k]? = some y → Vl (C0 W) y (cs'.getD k undef) := fun i => by
      by_cases hi : i < len0
      · obtain ⟨cs', hcs, htr⟩ := hx i (by omega)
        rw [hc] at hcs
        obtain ⟨x, h1, h2, h3⟩ := dec n cs' _ (World.cells?_some hcs).2.1 htr
        exact ⟨some (x, cs'), fun _ => ⟨x, cs', rfl, hcs, h1, h2, h3⟩⟩
      · exact ⟨none, fun h => absurd h hi⟩
    obtain ⟨F, hF⟩ : ∃ F : Nat → Option (α × List Value), ∀ i, i < len0 → ∃ x cs', F i = some (x, cs') ∧ W.cells? 0 (a.add (i * z)) z = some cs' ∧ Pre x ∧ (f x).cells.length = z ∧ ∀ k y, (f x).cells[k]? = some y → Vl (C0 W) y (cs'.getD k undef) :=
      ⟨fun i => Classical.choose (each i), fun i hi => Classical.choose_spec (each i) hi⟩
    let l : List α := (List.range len0).filterMap fun i => (F i).map (·.1)
    have hl : ∀ i, i < len0 → ∃ x cs', l[i]? = some x ∧ F i = some (x, cs') := by
      have key : ∀ n, n ≤ len0 → ((List.range n).filterMap fun i => (F i).map (·.1)).length = n ∧ ∀ i, i < n → ∃ x cs', ((List.range n).filterMap fun i => (F i).map (·.1))[i]? = some x ∧ F i = some (x, cs') := by
        intro n
        induction n with
        | zero => exact fun _ => ⟨rfl, fun i hi => by omega⟩
        | succ n ih =>
          intro hn
          obtain ⟨i1, i2⟩ := ih (by omega)
          obtain ⟨x, cs', hFn, _⟩ := hF n (by omega)
          rw [List.range_succ, List.filterMap_append]
          have hone : (List.filterMap (fun i => (F i).map (·.1)) [n]) = [x] := by simp [hFn]
          rw [hone]
          refine ⟨by simp [i1], fun i hi => ?_⟩
          rcases Nat.lt_or_ge i n with h | h
          · obtain ⟨y, c, h1, h2⟩ := i2 i h
            exact ⟨y, c, by rw [List.getElem?_append_left (by omega)]; exact h1, h2⟩
          · have : i = n := by omega
            subst this
            exact ⟨x, cs', by rw [List.getElem?_append_right (by omega), i1]; simp, hFn⟩
      exact (key len0 (Nat.le_refl _)).2
    have hll : l.length = len0 := by
      have key : ∀ n, n ≤ len0 → ((List.range n).filterMap fun i => (F i).map (·.1)).length = n := by
        intro n
        induction n with
        | zero => exact fun _ => rfl
        | succ n ih =>
          intro hn
          obtain ⟨x, cs', hFn, _⟩ := hF n (by omega)
          rw [List.range_succ, List.filterMap_append, List.length_append, ih (by omega)]
          simp [hFn]
      exact key len0 (Nat.le_refl _)
    have hat : ∀ i x, l[i]? = some x → ∃ cs', W.cells? 0 (a.add (i * z)) z = some cs' ∧ Pre x ∧ (f x).cells.length = z ∧ ∀ k y, (f x).cells[k]? = some y → Vl (C0 W) y (cs'.getD k undef) := fun i x hxi => by
      have hi : i < len0 := by rw [← hll]; exact get_lt hxi
      obtain ⟨x1, c1, e1, e2⟩ := hl i hi
      obtain ⟨x2, c2, e3, e4, e5, e6, e7⟩ := hF i hi
      rw [e1] at hxi; cases hxi
      rw [e2] at e3; cases e3
      exact ⟨c1, e4, e5, e6, e7⟩
    have hmem : ∀ x ∈ l, ∃ i, l[i]? = some x := fun x hx => List.getElem?_of_mem hx
    refine ⟨l, fun x hx => by obtain ⟨i, hi⟩ := hmem x hx; obtain ⟨_, _, h, _⟩ := hat i x hi; exact h, by omega, ?_⟩
    have hz' : ∀ e ∈ l.map f, e.cells.length = z := fun e he => by
      obtain ⟨x, hx, rfl⟩ := List.mem_map.1 he
      obtain ⟨i, hi⟩ := hmem x hx
      obtain ⟨_, _, _, h, _⟩ := hat i x hi
      exact h
    -- cell by cell
    have hcell : ∀ i, i < len0 → ∀ j, j < z → ∃ cs', W.cells? 0 (a.add (i * z)) z = some cs' ∧ W.cell? ⟨a.block, a.off + (i * z + j), none⟩ = some (cs'.getD j undef) := fun i hi j hj => by
      obtain ⟨x, cs', _, h1, _⟩ := hF i hi
      obtain ⟨_, h2, h3⟩ := World.cells?_some h1
      refine ⟨cs', h1, ?_⟩
      have hsp : a.spot = none := by
        obtain ⟨y, c2, _, g1, _⟩ := hF 0 (by omega)
        obtain ⟨_, g2, g3⟩ := World.cells?_some g1
        have := g3 0 hz
        rw [List.getElem?_eq_getElem (by omega)] at this
        have := (cell_block this).1
        simpa [Addr.add] using this
      have h4 := h3 j hj
      have hadd : (a.add (i * z)).add j = ⟨a.block, a.off + (i * z + j), none⟩ := by
        obtain ⟨b, o, s⟩ := a
        simp only at hsp; subst hsp
        rw [add_none, add_none]; simp [Nat.add_assoc]
      rw [hadd] at h4
      rw [h4, List.getElem?_eq_getElem (by omega)]
      simp [List.getD, List.getElem?_eq_getElem (show j < cs'.length by omega)]
    have : (l.map f).length = len0 := by rw [List.length_map]; exact hll
    rw [← this]
    refine .sl (fun k => (W.cell? ⟨a.block, a.off + k, none⟩).getD undef) hz (by rw [this]; exact hlc) (by simp) (fun h => by cases h) hz' (fun x hx hne => ?_) (fun _ x hx hne h => h) (fun k y hy => ?_)
    · cases hx
      have hpos : 0 < len0 := by rw [← this]; exact List.length_pos_iff.2 hne
      have hsp : a.spot = none := by
        obtain ⟨y, c2, _, g1, _⟩ := hF 0 hpos
        obtain ⟨_, g2, g3⟩ := World.cells?_some g1
        have := g3 0 hz
        rw [List.getElem?_eq_getElem (by omega)] at this
        have := (cell_block this).1
        simpa [Addr.add] using this
      refine ⟨hsp, c0_bad, fun k hk => ?_⟩
      rw [this] at hk
      have hdm := Nat.div_add_mod k z
      have h1 : k / z < len0 := by rw [Nat.div_lt_iff_lt_mul hz]; exact hk
      obtain ⟨cs', _, h2⟩ := hcell (k / z) h1 (k % z) (Nat.mod_lt _ hz)
      rw [show k / z * z + k % z = k by rw [Nat.mul_comm]; exact hdm] at h2
      show W.cell? _ = some ((W.cell? _).getD undef)
      rw [h2]; rfl
    · have hk : k < len0 * z := by
        have h9 := get_lt hy
        rw [flat_length hz', this] at h9; exact h9
      have hdm := Nat.div_add_mod k z
      have h1 : k / z < len0 := by rw [Nat.div_lt_iff_lt_mul hz]; exact hk
      obtain ⟨x, c1, e1, e2⟩ := hl (k / z) h1
      obtain ⟨cs', g1, _, _, g2⟩ := hat _ _ e1
      obtain ⟨cs2, g3, g4⟩ := hcell (k / z) h1 (k % z) (Nat.mod_lt _ hz)
      rw [g1] at g3; cases g3
      have hkk : k / z * z + k % z = k := by rw [Nat.mul_comm]; exact hdm
      rw [hkk] at g4
      rw [g4]
      have := flat_get hz' (j := k / z) (e := f x) (by simp [e1]) (k := k % z) (Nat.mod_lt _ hz)
      rw [hkk, hy] at this
      exact g2 _ y this.symm

/-- One cell of a whole number. -/
theorem dec_int {t : TypeId} {k : IntKind} {n : Nat} {cs : List Value} {x : DataW H × List MemPlace} (ht : P.underlying t = some (.int k)) (h : DataW.trod enc P W 0 spare held n t cs = some x) : ∃ m, cs = [.int k m] ∧ klo k ≤ m ∧ m ≤ khi k := by
  obtain ⟨m, rfl, _, hw⟩ := DataW.trod_int ht h
  refine ⟨m, rfl, ?_⟩
  cases k <;> simp [Lit.wf, IntKind.min, IntKind.max, IntKind.signed, IntKind.bits] at hw <;> simp [klo, khi] <;> omega
theorem int_rng {k : IntKind} {n : Int} (hw : (Lit.int k n).wf = true) : klo k ≤ n ∧ n ≤ khi k := by
  cases k <;> simp [Lit.wf, IntKind.min, IntKind.max, IntKind.signed, IntKind.bits] at hw <;> simp [klo, khi] <;> omega
end
end Go.Ab
namespace Go.Ab
open Go

section
variable {P : Program} {F : Frm} {H : Heap}
/-- append behind a part of an own row, where there is room within the row. -/
theorem append_cut {K : Kon} {C : Ctx} (hp : Hp K C) {t ty e : TypeId} {n ver z len : Nat} {es new : List AV} (ht : sliceElem P t = some e) (hz : tsize P e = some z)
    {vs0 vx : Value} {ax : AV} (hss : Vl C (.slo n ver 0 len) vs0) (hx : Vl C ax vx) (hn : C.H[n]? = some (.vec z ver es)) (hnew : srcElems C.H z ax = some new) (hg : new.all (AV.goodPart C.H) = true)
    (hroom0 : len + new.length ≤ es.length) :
    ∃ u C', (Builtin.append_ #[t, t] ty #[vs0, vx]).run P C.w = .ok u C'.w ∧ Ext C C' ∧ Hp K C' ∧ Vl C' (.slo n (ver + 1) 0 (len + new.length)) u ∧ C'.H = C.H.set n (.vec z (ver + 1) (es.take len ++ new)) := by
  obtain ⟨g0, g1, g2, g3⟩ := hp.obj n _ hn
  have hnl := get_lt hn
  obtain ⟨ad, cap, rfl, hnone, hzn, vs, hvl, hvx, hmem⟩ := srcElems_ok hp g0 hx hnew
  have ht' := sliceElem_spec ht
  obtain ⟨ii, hii⟩ : ∃ ii, P.info? e = some ii := by
    unfold tsize at hz; cases h : P.info? e with
    | none => simp [h] at hz
    | some ii => exact ⟨ii, rfl⟩
  have hiz : ii.size = z := by simp [tsize, hii] at hz; exact hz
  have hgood := good_src hg (by rw [flat_length hzn]; exact hvl) hvx
  have htl : (es.take len).length = len := by simp; omega
  cases hss with
  | slo hi hv hh =>
    obtain ⟨_, hhv⟩ := hh _ _ hn
    simp only [Nat.zero_mul, Nat.sub_zero] at hhv
    subst hhv
    have g1t : ∀ q ∈ es.take len, q.cells.length = z := fun q hq => g1 q (List.mem_of_mem_take hq)
    have hsz : ∀ q ∈ es.take len ++ new, q.cells.length = z := fun q hq => by
      rcases List.mem_append.1 hq with h | h
      · exact g1t q h
      · exact hzn q h
    have fin : ∀ (w' : World), w'.os = C.w.os → w'.tape = C.w.tape → w'.output = C.w.output → C.w.heap.size ≤ w'.heap.size →
        (∀ b, b < C.w.heap.size → C.β n ≠ some b → w'.heap[b]? = C.w.heap[b]?) →
        ((C.β n = none ∧ C.κ n = 0) ∨ ∃ b c tt, C.β n = some b ∧ w'.heap[b]? = some (.cells c tt (0, 0)) ∧ c.size = C.κ n * z ∧ ∀ k y, (flat (es.take len ++ new))[k]? = some y → Vl C y (c.getD k undef)) →
        ∃ C', C'.w = w' ∧ Ext C C' ∧ Hp K C' ∧ Vl C' (.slo n (ver + 1) 0 (len + new.length)) (.slice ((C.β n).map fun b => ⟨b, 0, none⟩) (len + new.length) (C.κ n)) ∧ C'.H = C.H.set n (.vec z (ver + 1) (es.take len ++ new)) := by
      intro w' h1 h2 h3 h4 h5 h8
      have := hp.upd w' n hnl (.vec z (ver + 1) (es.take len ++ new)) (C.β n) (C.κ n) h1 h2 h3 h4 h5 (.inl rfl) _ rfl (by rw [hn]; exact ⟨rfl, by omega, fun h => by omega⟩) (fun ex => by
        refine ⟨g0, hsz, by rw [List.length_append, htl]; simp; omega, ?_⟩
        rcases h8 with ⟨h9, h10⟩ | ⟨b, c, tt, h9, h10, h11, h12⟩
        · exact .inl ⟨by simpa using h9, by simpa using h10⟩
        · exact .inr ⟨b, c, tt, by simpa using h9, h10, by simpa using h11, fun k y hy => (h12 k y hy).mono ex⟩)
      refine ⟨_, rfl, this.1, this.2, .slo (by simpa using hnl) (fun z' v0 es' hes' => ?_) (fun z' es' hes' => ?_), rfl⟩
      · simp [hnl] at hes'; omega
      · simp [hnl] at hes'
        obtain ⟨_, rfl⟩ := hes'
        simp
        omega
    cases ad with
    | none =>
      obtain ⟨rfl, rfl⟩ := hnone rfl
      have := append_none (P := P) t ty e ii ht' hii ((C.β n).map fun b => ⟨b, 0, none⟩) len (C.κ n) (by omega) C.w
      obtain ⟨C', e1, e2, e3, e4, e5⟩ := fin C.w rfl rfl rfl (Nat.le_refl _) (fun _ _ _ => rfl) (by
        rcases g3 with g3 | ⟨b, c, tt, g4, g5, g6, g7⟩
        · exact .inl g3
        · refine .inr ⟨b, c, tt, g4, g5, g6, fun k y hy => ?_⟩
          simp only [List.append_nil] at hy
          rw [flat_take g1] at hy
          have hk := get_lt hy
          have hk1 : k < len * z := by simp only [List.length_take] at hk; omega
          rw [List.getElem?_take_of_lt hk1] at hy
          exact g7 k y hy)
      refine ⟨_, C', ?_, e2, e3, e4, e5⟩
      simp only [List.length_nil, Nat.add_zero]
      rw [e1]; exact this
    | some ad =>
      rcases g3 with ⟨g3, g4⟩ | ⟨b, c, tt, g4, g5, g6, g7⟩
      · have h0 : es.length = 0 := by omega
        have h1 : len = 0 := by omega
        have h2 : new = [] := List.length_eq_zero_iff.1 (by omega)
        subst h1 h2
        obtain ⟨C', e1, e2, e3, e4, e5⟩ := fin C.w rfl rfl rfl (Nat.le_refl _) (fun _ _ _ => rfl) (.inl ⟨g3, g4⟩)
        refine ⟨_, C', ?_, e2, e3, e4, e5⟩
        rw [g3, g4, e1]
        simp [Builtin.append_, run_underlying ht', sizeOf, typeInfo, hii, Builtin.lenOf, Builtin.firstCells, loadCells, loadCellsFrom]
      · have hroom : len + new.length ≤ C.κ n := by omega
        have hfit : len * ii.size + vs.length ≤ c.size := by rw [hvl, hiz, g6, ← Nat.add_mul]; exact Nat.mul_le_mul_right _ hroom
        have hr := append_room (P := P) t ty e ii ht' hii C.w tt b len (C.κ n) c g5 ad new.length cap vs (by rw [hvl, hiz]) (hmem ad rfl) hgood hroom hfit
        rw [hiz] at hr hfit
        have p1 : (splice c.toList (len * z) vs).toArray.size = C.κ n * z := by
          rw [List.size_toArray, splice_length c.toList (len * z) vs (by simpa using hfit)]; simpa using g6
        have p2 : ∀ k y, (flat (es.take len ++ new))[k]? = some y → Vl C y ((splice c.toList (len * z) vs).toArray.getD k undef) := fun k y hy => by
          have e0 : (splice c.toList (len * z) vs).toArray.getD k undef = ((splice c.toList (len * z) vs)[k]?).getD undef := by simp
          rw [e0, splice_get c.toList (len * z) vs (by simpa using hfit)]
          rw [flat_append] at hy
          have hfl := flat_length g1t
          rw [htl] at hfl
          rcases Nat.lt_or_ge k (len * z) with hk | hk
          · rw [if_neg (by omega)]
            rw [List.getElem?_append_left (by omega), flat_take g1, List.getElem?_take_of_lt hk] at hy
            simpa using g7 k y hy
          · rw [List.getElem?_append_right (by omega), hfl] at hy
            have hk2 := get_lt hy
            rw [flat_length hzn] at hk2
            rw [if_pos ⟨hk, by omega⟩]
            simpa [List.getD] using hvx _ y hy
        obtain ⟨C', e1, e2, e3, e4, e5⟩ := fin (C.w.setRow b (splice c.toList (len * z) vs).toArray) rfl rfl rfl (by simp [World.setRow])
          (fun b' _ hne => setRow_other C.w b b' _ (fun hh => hne (by rw [g4, hh]))) (.inr ⟨b, _, tt, g4, setRow_heap' g5, p1, p2⟩)
        refine ⟨_, C', ?_, e2, e3, e4, e5⟩
        rw [e1, g4]
        simp only [Option.map_some]
        rw [hr]

theorem o_apc {e : TypeId} {t : TypeId} {x y : Operand} {v : AV} {q ver len z bytes ver' len' : Nat} {zs : List Value} {x0 : AV} {es new out : List AV} {H' : Heap} (he : ElemOk P t e z zs x0 bytes) (hs : evx F x = some (.slo q ver 0 len)) (hH : H[q]? = some (.vec z ver es)) (hy : evx F y = some v) (hnew : srcElems H z v = some new)
    (hg : new.all (AV.goodPart H) = true) (hb : len + new.length ≤ es.length) (hver : ver + 1 = ver') (hlen' : len + new.length = len') (hout : es.take len ++ new = out) (hH' : setX H q (.vec z ver' out) = some H') :
    OpOk P (.call { callee := .builtin .append, args := #[x, y], argTypes := #[t, t] }) F H (.slo q ver' 0 len') H' := by
  subst hver hlen' hout
  intro K C ρ oo ho hp hH0 hρ
  subst hH0
  obtain ⟨u, C', h1, h2, h3, h4, h5⟩ := append_cut (P := P) hp (ty := oo.type) he.ht he.hz (evx_eq hs ▸ hρ x) (evx_eq hy ▸ hρ y) hH hnew hg hb
  have := (setX_eq _ _ _ _ hH').2
  subst this
  exact ⟨_, _, C', by rw [append_exec ho, h1]; rfl, .inl rfl, h2, h3, h4, h5⟩

theorem o_slh {e t : TypeId} {x h : Operand} {k : IntKind} {z n ver len m : Nat} {r : Int} {es : List AV} (ht : sliceElem P t = some e) (hz : tsize P e = some z) (hx : evx F x = some (.slo n ver 0 len)) (hn : H[n]? = some (.vec z ver es))
    (hh : evx F h = some (.raw (.int k r))) (hm : r = (m : Int)) (h3 : m ≤ es.length) : OpOk P (.slice t x none (some h) none) F H (.slo n ver 0 m) H := by
  subst hm
  have := ok_slice_slo (P := P) (F := F) (H := H) (t := t) (hi := some h) (rh := some (m : Int)) ht hz (evx_eq hx) hn (by simp only [bnd, evx_eq hh]) (by simp) (by simpa using h3)
  simpa using this

/-- What stands behind a place of an own row. -/
def tailAV (q ver l len z : Nat) : AV := if l < len then .slo q ver l (len - l) else .sl z false []
theorem o_slt {e t : TypeId} {x lo : Operand} {k : IntKind} {z n ver len l : Nat} {r : Int} {es : List AV} (ht : sliceElem P t = some e) (hz : tsize P e = some z) (hz0 : 0 < z) (hx : evx F x = some (.slo n ver 0 len)) (hn : H[n]? = some (.vec z ver es))
    (hh : evx F lo = some (.raw (.int k r))) (hm : r = (l : Int)) (h2 : l ≤ len) (h3 : len ≤ es.length) : OpOk P (.slice t x (some lo) none none) F H (tailAV n ver l len z) H := by
  subst hm
  unfold tailAV
  split
  · rename_i hlt
    have := ok_slice_slo_lo (P := P) (F := F) (H := H) (t := t) (hi := none) (rh := none) ht hz (evx_eq hx) hn (evx_eq hh) (by rfl) (by omega) (by simpa using hlt) (by simpa using h3)
    simpa using this
  · have hl : l = len := by omega
    subst hl
    refine .still fun K C ρ oo ho hp hH hρ => ?_
    subst hH
    have hv := evx_eq hx ▸ hρ x
    generalize hr : ρ x = r at hv
    cases hv with
    | slo hi' hv hhv =>
      obtain ⟨hl, rfl⟩ := hhv _ _ hn
      obtain ⟨g0, g1, g2, g3⟩ := hp.obj n _ hn
      have hb := sliceBounds_run (P := P) hρ (lo := some lo) (hi := none) (rl := some (l : Int)) (rh := none) (by simp only [bnd, evx_eq hh]) rfl l (C.κ n) (by omega) (fun q hq => by simp at hq) (by simp) C.w
      have hrun := sliceAt_run (P := P) (sliceElem_spec ht) hz ((C.β n).map fun b => ⟨b, 0 * z, none⟩) l (C.κ n - 0) _ _ _ _ _ C.w (by simpa using hb)
      simp only [Option.map_some, Option.map_none, Option.getD_none, Option.getD_some, Int.toNat_natCast, Nat.sub_zero, Nat.sub_self] at hrun
      refine ⟨_, (by simp only [execOp, ho, hr, Sem.run_bind, Option.map_some, Option.map_none, Nat.sub_zero, hrun, Result.andThen_ok]; rfl), ?_⟩
      exact .sl (es := []) (fun _ => undef) hz0 (by simp) (fun h => by cases h) (fun h => by
        rcases g3 with ⟨g3, g4⟩ | ⟨b, c, t, g4, _⟩
        · omega
        · split at h
          · rw [g4] at h; cases h
          · rw [g4] at h; cases h) (by simp) (fun x _ hne => absurd rfl hne) (fun _ x _ hne => absurd rfl hne) (by simp [flat])
theorem srcTail {H : Heap} {q ver l len z : Nat} {es r : List AV} (hn : H[q]? = some (.vec z ver es)) (hl : len = es.length) (h2 : l ≤ len) (hr : es.drop l = r) : srcElems H z (tailAV q ver l len z) = some r := by
  subst hl hr
  unfold tailAV
  split
  · simp only [srcElems, hn]
    rw [if_pos (by simp)]
    rw [List.take_of_length_le (by simp)]
  · rw [List.drop_of_length_le (by omega)]; simp [srcElems]

/-- A place for a row to come. -/
theorem w_ph {E : Env} {c : Code} {Q : Exit → Frm → Heap → Prop} {H' : Heap} (z : Nat) (hz : 0 < z) (hH : snocX H (.vec z 0 []) = some H') (h : AWp E c Q F H') : AWp E c Q F H := by
  intro K C a h1 h2 h3 h4 h5
  subst h5
  obtain ⟨C', e1, e2, e3, e4, e5⟩ := push_nil h4.hp hz
  rw [← e1]
  exact h K C' a h1 h2 h3 { hp := e3, size := h4.size, fr := fun k x hx => (h4.fr k x hx).mono e2, marks := h4.marks.mono e2 } (by rw [e5, snocX_eq _ _ _ hH])

/-- A literal into its place. -/
theorem o_bsD {t e : TypeId} {len z bytes q : Nat} {zs : List Value} {x : AV} {parts : Array (Nat × Operand)} {ps : List (Nat × AV)} {rs es es0 : List AV} (he : ElemOk P t e z zs x bytes) (hb : len * z ≤ 16777216) (hps : partX F parts.toList = some ps) (hr : repX x len = some rs) (hl : litX H z rs ps = some es)
    (hq : H[q]? = some (.vec z 0 es0)) : OpOk P (.buildSlice t len parts) F H (.slo q 1 0 len) (H.set q (.vec z 1 es)) := by
  intro K C ρ oo ho hp hH hρ
  subst hH
  have hql := get_lt hq
  have hxc := zeroAV_cells he.hx he.hzero he.hraw
  have hlit : litElems P C.H e z (List.replicate len x) (parts.toList.map fun p => (p.1, ev F p.2)) = some es := by rw [partX_eq _ _ hps, repX_eq _ _ _ hr]; exact litX_eq _ _ _ hl
  obtain ⟨c, e1, e2, e3, e4⟩ := litElems_ok (P := P) hρ parts.toList (List.replicate len x) _ es (fun q hq => by rw [List.eq_of_mem_replicate hq, hxc]; simpa using he.hzl) (cellsOk_zero hxc he.hzl he.hz0) hlit
  simp at e4
  have hrun := buildSlice_run (P := P) (parts := parts.map fun (i, x) => (i, ρ x)) (len := len) (sliceElem_spec he.ht) he.hz he.hzero hb (c := c) (by simpa using e1) C.w
  have := hp.upd (C.w.alloc (.cells c e)) q hql (.vec z 1 es) (some C.w.heap.size) len rfl rfl rfl (by simp) (fun b hb _ => heap_alloc_old C.w _ b hb) (.inr ⟨_, rfl, Nat.le_refl _, by simp⟩) _ rfl (by rw [hq]; exact ⟨rfl, by omega, fun h => by omega⟩)
    (fun ex => ⟨he.hz0, e3, by simp [e4], .inr ⟨C.w.heap.size, c, e, by simp, World.alloc_heap_new C.w _, by rw [e2.1, flat_length e3]; simp [e4], fun k y hy => (e2.2 k y hy).mono ex⟩⟩)
  refine ⟨.value (.slice (some ⟨C.w.heap.size, 0, none⟩) len len), _, _, by simp only [execOp, ho, Sem.run_bind, hrun, Result.andThen_ok, Sem.run_pure], .inl rfl, this.1, this.2, ?_, rfl⟩
  refine .slo (by simpa using hql) (fun z' v0 es' hes => ?_) (fun z' es' hes => ?_)
  · simp [hql] at hes; omega
  · simp [hql] at hes
    obtain ⟨_, rfl⟩ := hes
    simp [e4]
end
end Go.Ab
namespace Go.Ab
open Go
section
variable {P : Program} {F : Frm} {H : Heap}
/-- make, into its place. -/
theorem o_msD {t e : TypeId} {l c : Operand} {z bytes q : Nat} {zs : List Value} {x : AV} {kl kc : IntKind} {n m : Int} {es0 : List AV} (he : ElemOk P t e z zs x bytes) (hl : evx F l = some (.raw (.int kl n))) (hc : evx F c = some (.raw (.int kc m))) (h0 : 0 ≤ n) (hnm : n ≤ m)
    (hb : (bytes : Int) * m ≤ 281474976710656) (h63 : m ≤ 9223372036854775807) (hq : H[q]? = some (.vec z 0 es0)) : OpOk P (.makeSlice t l c) F H (.slo q 1 0 n.toNat) (H.set q (.vec z 1 (List.replicate n.toNat x))) := by
  intro K C ρ oo ho hp hH hρ
  subst hH
  have hql := get_lt hq
  have hz := he.hz; have hby := he.hby; have hzero := he.hzero; have hzl := he.hzl; have hz0 := he.hz0
  have h1 : ρ l = .int kl n := Vl.raw_inv (evx_eq hl ▸ hρ l)
  have h2 : ρ c = .int kc m := Vl.raw_inv (evx_eq hc ▸ hρ c)
  obtain ⟨ii, hii⟩ : ∃ ii, P.info? e = some ii := by
    unfold tsize at hz; cases h : P.info? e with
    | none => simp [h] at hz
    | some ii => exact ⟨ii, rfl⟩
  have hiz : ii.size = z := by simp [tsize, hii] at hz; exact hz
  have hib : ii.bytes = bytes := by simp [tbytes, hii] at hby; exact hby
  obtain ⟨zv, hzv⟩ : ∃ zv, ii.zero = some zv := by
    cases h : ii.zero with
    | none => simp [tzero, hii, h] at hzero
    | some zv => exact ⟨zv, rfl⟩
  have hzc : zv.cells = zs.toArray := by
    simp [tzero, hii, hzv] at hzero; rw [← hzero]
  have hr := run_make C.w t e ii zv (sliceElem_spec he.ht) hii hzv kl kc n m h0 hnm (by rw [hib]; exact hb) h63 (P := P)
  have hxc := zeroAV_cells he.hx hzero he.hraw
  have hcs : (madeCells zv.cells (m.toNat * ii.size)).size = m.toNat * z := by simp [madeCells, hiz]
  have := hp.upd (C.w.alloc (.cells (madeCells zv.cells (m.toNat * ii.size)) e)) q hql (.vec z 1 (List.replicate n.toNat x)) (some C.w.heap.size) m.toNat rfl rfl rfl (by simp) (fun b hb _ => heap_alloc_old C.w _ b hb) (.inr ⟨_, rfl, Nat.le_refl _, by simp⟩) _ rfl (by rw [hq]; exact ⟨rfl, by omega, fun h => by omega⟩)
    (fun ex => ⟨hz0, fun q hq => by rw [List.eq_of_mem_replicate hq, hxc]; simpa using hzl, by simp; omega, .inr ⟨C.w.heap.size, _, e, by simp, World.alloc_heap_new C.w _, by simpa using hcs, fun k y hk => by
      obtain ⟨g1, g2⟩ := flat_replicate n.toNat x zs hxc (by omega) k y hk
      rw [g1]
      have hkm : k < m.toNat * ii.size := by
        have : n.toNat * zs.length ≤ m.toNat * zs.length := Nat.mul_le_mul_right _ (by omega)
        rw [hiz, ← hzl]; omega
      have hmod : k % zs.length < zs.length := Nat.mod_lt _ (by omega)
      have : (madeCells zv.cells (m.toNat * ii.size)).getD k undef = zs.getD (k % zs.length) undef := by
        simp [madeCells, hkm, hzc, hmod, List.getD]
      rw [this]; exact .raw _⟩⟩)
  refine ⟨.value (.slice (some ⟨C.w.heap.size, 0, none⟩) n.toNat m.toNat), _, _, ?_, .inl rfl, this.1, this.2, ?_, rfl⟩
  · simp only [execOp, ho, h1, h2, Sem.run_bind, hr, Result.andThen_ok, Sem.run_pure]
  · refine .slo (by simpa using hql) (fun z' v0 es hes => ?_) (fun z' es hes => ?_)
    · simp [hql] at hes; omega
    · simp [hql] at hes
      obtain ⟨_, rfl⟩ := hes
      simp
end
end Go.Ab
namespace Go.Ab
open Go
section
variable {P : Program} {F : Frm} {H H' : Heap}

/-- What is told of one slot more weakly. -/
theorem opOk_weak {op : Op} {q : Tmp} {u w v : AV} (hx : evx F (.tmp q) = some u) (hw : ∀ C y, Vl C u y → Vl C w y) (h : OpOk P op ((q, w) :: F) H v H') : OpOk P op F H v H' := by
  intro K C ρ oo ho hp hH hρ
  refine h K C ρ oo ho hp hH fun x => ?_
  by_cases hq : x = .tmp q
  · subst hq
    have h1 := evx_eq hx ▸ hρ (.tmp q)
    have h2 : ev ((q, w) :: F) (.tmp q) = w := by simp [ev]
    rw [h2]; exact hw C _ h1
  · have h2 : ev ((q, w) :: F) x = ev F x := by
      cases x with
      | tmp t =>
        have : (t == q) = false := by simp; intro e; exact hq (by rw [e])
        simp only [ev, List.lookup_cons, this]
      | const v => cases v <;> rfl
      | _ => rfl
    rw [h2]; exact hρ x

theorem slb_view {z n : Nat} {es : List AV} (C : Ctx) (v : Value) (h : Vl C (.slb z n es) v) : Vl C (.sl z fL (es.take n)) v := by
  cases h with
  | slb g hz hle hcap hn hs ha hx =>
    have hl : (es.take n).length = n := by simp; omega
    have hz' : ∀ e ∈ es.take n, e.cells.length = z := fun e he => hs e (List.mem_of_mem_take he)
    conv => rhs; rw [← hl]
    refine .sl g hz (by omega) (fun h => by cases h) hn hz' (fun x hx hne => ?_) (fun h => by cases h) (fun k x hk => ?_)
    · obtain ⟨h1, h2, h3⟩ := ha x hx (fun h => hne (by rw [h]; simp))
      exact ⟨h1, h2, fun k hk => h3 k (Nat.lt_of_lt_of_le hk (Nat.mul_le_mul_right z (by omega)))⟩
    · rw [flat_take hs] at hk
      have hlt := get_lt hk
      rw [List.getElem?_take_of_lt (by simp at hlt; omega)] at hk
      exact hx k x hk

/-- A slice with more behind it, read at a place within its length. -/
theorem o_ixb {t e : TypeId} {i : Operand} {q : Tmp} {z j n : Nat} {k : IntKind} {r : Int} {es : List AV} {v : AV} (ht : sliceElem P t = some e) (hz : tsize P e = some z) (hx : evx F (.tmp q) = some (.slb z n es)) (hi : evx F i = some (.raw (.int k r))) (hiq : i ≠ .tmp q) (hn : r = (j : Int)) (hv : es[j]? = some v) (hj : j < n) :
    OpOk P (.indexAddr t (.tmp q) i) F H (.rp v.cells) H := by
  refine opOk_weak hx slb_view (o_ix (k := k) ht hz (b := fL) (es := es.take n) (by simp [evx, look]) ?_ hn (by rw [List.getElem?_take_of_lt hj]; exact hv))
  cases i with
  | tmp s =>
    have : Nat.beq s q = false := by
      cases hb : Nat.beq s q with
      | false => rfl
      | true => exact absurd (by rw [Nat.eq_of_beq_eq_true hb]) hiq
    simp only [evx, look, this, cond_false] at hi ⊢; exact hi
  | _ => exact hi

/-- All of a slice with more behind it. -/
theorem o_slb {t e : TypeId} {x h : Operand} {z n m : Nat} {k : IntKind} {r : Int} {es : List AV} (ht : sliceElem P t = some e) (hz : tsize P e = some z) (hx : evx F x = some (.slb z n es)) (hh : evx F h = some (.raw (.int k r))) (hm : r = (m : Int)) (h3 : m ≤ es.length) :
    OpOk P (.slice t x none (some h) none) F H (.sl z fL (es.take m)) H := .still fun K C ρ oo ho hp hH hρ => by
  subst hm
  have hv := evx_eq hx ▸ hρ x
  generalize hr : ρ x = r at hv
  cases hv with
  | slb g hz' hle hcap hn hs ha hx' =>
    rename_i a cap
    have hb := sliceBounds_run (P := P) hρ (lo := none) (hi := some h) (rl := none) (rh := some (m : Int)) rfl (by simp only [bnd, evx_eq hh]) n cap (by omega) (fun q hq => by simp at hq; omega) (by simp) C.w
    have hrun := sliceAt_run (P := P) (sliceElem_spec ht) hz a n cap _ _ _ _ _ C.w hb
    simp only [Option.map_none, Option.map_some, Option.getD_none, Option.getD_some, Int.toNat_zero, Int.toNat_natCast, Nat.sub_zero, Nat.zero_mul] at hrun
    have hl : (es.take m).length = m := by simp; omega
    refine ⟨.slice (if cap = 0 then a else a.map (·.add 0)) m cap, by simp only [execOp, ho, hr, Sem.run_bind, Option.map_none, Option.map_some, hrun, Result.andThen_ok, Sem.run_pure], ?_⟩
    have ha0 : (if cap = 0 then a else a.map (·.add 0)) = a := by
      split
      · rfl
      · cases a with
        | none => rfl
        | some a => obtain ⟨b, o, sp⟩ := a; simp [Addr.add]
    rw [ha0]
    conv => rhs; rw [← hl]
    have hz2 : ∀ e ∈ es.take m, e.cells.length = z := fun e he => hs e (List.mem_of_mem_take he)
    refine .sl g hz' (by omega) (fun h => by cases h) hn hz2 (fun x hx hne => ?_) (fun h => by cases h) (fun k x hk => ?_)
    · obtain ⟨h1, h2, h3⟩ := ha x hx (fun h => hne (by rw [h]; simp))
      exact ⟨h1, h2, fun k hk => h3 k (Nat.lt_of_lt_of_le hk (Nat.mul_le_mul_right z (by omega)))⟩
    · rw [flat_take hs] at hk
      have hlt := get_lt hk
      rw [List.getElem?_take_of_lt (by simp at hlt; omega)] at hk
      exact hx' k x hk

/-! ### structs of numbers and texts, the same twice -/
def rawL : List AV → Option (List Value)
  | [] => some []
  | .raw v :: l => match rawL l with | some r => some (v :: r) | none => none
  | _ => none
theorem rawL_eq : ∀ {l : List AV} {r : List Value}, rawL l = some r → l = r.map .raw
  | [], r, h => by simp [rawL] at h; subst h; rfl
  | a :: l, r, h => by
    cases a with
    | raw v =>
      simp only [rawL] at h
      split at h <;> simp at h
      rename_i r' hr
      subst h
      rw [rawL_eq hr]; rfl
    | _ => simp [rawL] at h
def scTy (P : Program) (t : TypeId) (v : Value) : Bool := match P.underlying t, v with
  | some (.int _), .int _ _ => true
  | some .string, .string _ => true
  | _, _ => false
def scs (P : Program) (xs : List Value) : List Field → Bool
  | [] => true
  | f :: fs => (match xs[f.offset]? with | some v => scTy P f.type v | none => false) && scs P xs fs
theorem sc_same {t : TypeId} {v : Value} (h : scTy P t v = true) (d : Nat) (w : World) : (Op.equalIn (d + 1) t v v).run P w = .ok true w ∧ tagg P t = some false := by
  unfold scTy at h
  split at h
  · rename_i k _ _ hu
    exact ⟨by rw [run_equalIn_int w d t _ _ _ _ hu]; simp, by simp [tagg, hu]⟩
  · rename_i hu
    exact ⟨by rw [run_equalIn_string w d t _ _ hu]; simp, by simp [tagg, hu]⟩
  · cases h
theorem fields_same (d : Nat) (xs : List Value) (w : World) : ∀ fs : List Field, scs P xs fs = true → (Op.eqFields (d + 1) xs.toArray xs.toArray fs).run P w = .ok true w
  | [], _ => by simp [Op.eqFields]
  | f :: fs, h => by
    simp only [scs, Bool.and_eq_true] at h
    have ih := fields_same d xs w fs h.2
    simp only [Op.eqFields, Sem.run_ite]
    split
    · have h1 := h.1
      split at h1
      · rename_i v hv
        obtain ⟨e1, e2⟩ := sc_same h1 d w
        have hp : ∀ w, (part f.type xs.toArray f.offset).run P w = .ok v w := fun w => by
          unfold part
          rw [Sem.run_bind, tagg_run e2]
          simp [hv]
        simp only [Sem.run_bind, hp, Result.andThen_ok, e1, Bool.not_true, Bool.false_eq_true, if_false]
        exact ih
      · cases h1
    · exact ih
structure EqOk (P : Program) (t : TypeId) : Prop where
  ht : P.underlying t = some (.struct (P.fieldsOf t))
  hp : P.stoodInHeld t = false
  hm : P.eqGuardType P.depth t = false
theorem agg_raws {C : Ctx} {as : List AV} {vs : List Value} {u : Value} (h : Vl C (.agg as) u) (hr : rawL as = some vs) : u = .agg vs.toArray := by
  have := rawL_eq hr
  subst this
  cases h with
  | agg hl hx =>
    rename_i cs
    congr 1
    apply Array.ext
    · simpa using hl
    · intro i h1 h2
      have hi : i < vs.length := by simpa using h2
      have := hx i (.raw vs[i]) (by simp [hi])
      have h3 := Vl.raw_inv this
      simp [h1] at h3
      simpa using h3
theorem o_seq {t t' : TypeId} {x y : Operand} {as : List AV} {vs : List Value} (he : EqOk P t) (hx : evx F x = some (.agg as)) (hy : evx F y = some (.agg as)) (hr : rawL as = some vs) (hs : scs P vs (P.fieldsOf t).toList = true) :
    OpOk P (.binOp .eql t x y t') F H (.raw (.bool true)) H := .still fun K C ρ oo ho hp hH hρ => by
  have h1 := agg_raws (evx_eq hx ▸ hρ x) hr
  have h2 := agg_raws (evx_eq hy ▸ hρ y) hr
  refine ⟨.bool true, ?_, .raw _⟩
  simp only [execOp, ho, h1, h2, Sem.run_bind, run_eqGuard_agg C.w _ _ _ _ _ _ he.hm, Result.andThen_ok, run_eql_struct]
  rw [show (10000 : Nat) = 9998 + 1 + 1 from rfl, run_equalIn_struct C.w (9998 + 1) t _ _ he.ht he.hp, fields_same 9998 vs C.w _ hs]
  simp
theorem o_sne {t t' : TypeId} {x y : Operand} {as : List AV} {vs : List Value} (he : EqOk P t) (hx : evx F x = some (.agg as)) (hy : evx F y = some (.agg as)) (hr : rawL as = some vs) (hs : scs P vs (P.fieldsOf t).toList = true) :
    OpOk P (.binOp .neq t x y t') F H (.raw (.bool false)) H := .still fun K C ρ oo ho hp hH hρ => by
  have h1 := agg_raws (evx_eq hx ▸ hρ x) hr
  have h2 := agg_raws (evx_eq hy ▸ hρ y) hr
  refine ⟨.bool false, ?_, .raw _⟩
  simp only [execOp, ho, h1, h2, Sem.run_bind, run_eqGuard_agg C.w _ _ _ _ _ _ he.hm, Result.andThen_ok, run_neq_struct]
  rw [show (10000 : Nat) = 9998 + 1 + 1 from rfl, run_equalIn_struct C.w (9998 + 1) t _ _ he.ht he.hp, fields_same 9998 vs C.w _ hs]
  simp

/-! ### a text out of bytes -/
def u8L : List AV → Option (List Int)
  | [] => some []
  | .raw (.int .u8 n) :: l => match u8L l with | some r => some (n :: r) | none => none
  | _ => none
theorem u8L_eq : ∀ {l : List AV} {r : List Int}, u8L l = some r → l = r.map fun n => .raw (.int .u8 n)
  | [], r, h => by simp [u8L] at h; subst h; rfl
  | a :: l, r, h => by
    unfold u8L at h
    split at h
    · rename_i h0; cases h0
    · rename_i n l' h0
      cases h0
      split at h <;> simp at h
      rename_i r' hr
      subst h
      rw [u8L_eq hr]; rfl
    · cases h
def textOf (ns : List Int) : ByteArray := ns.foldl (fun r n => r.push (UInt8.ofNat n.toNat)) ByteArray.empty
theorem flat_raw (vs : List Value) : flat (vs.map .raw) = vs.map .raw := by
  induction vs with
  | nil => rfl
  | cons v t ih => simp only [flat, List.map_cons, List.flatMap_cons] at ih ⊢; rw [ih]; rfl
theorem o_b2s {s d e : TypeId} {x : Operand} {b : Fl} {es : List AV} {ns : List Int} (hs : sliceElem P s = some e) (he : P.underlying e = some (.int .u8)) (hd : P.underlying d = some .string) (hx : evx F x = some (.sl 1 b es)) (hn : u8L es = some ns) :
    OpOk P (.convert s d x) F H (.raw (.string (textOf ns))) H := .still fun K C ρ oo ho hp hH hρ => by
  have hes := u8L_eq hn
  subst hes
  have hv := evx_eq hx ▸ hρ x
  generalize hr : ρ x = r at hv
  refine ⟨.string (textOf ns), ?_, .raw _⟩
  simp only [execOp, ho, hr]
  cases hv with
  | sl g hz hcap hfull hnil hs' ha hL hx' =>
    rename_i a cap
    rw [Sem.run_bind, run_convert_bytes_string C.w s d e a _ cap (sliceElem_spec hs) he hd]
    have hf : flat (ns.map fun n => AV.raw (.int .u8 n)) = ns.map fun n => AV.raw (.int .u8 n) := by
      have := flat_raw (ns.map (Value.int .u8))
      rw [List.map_map] at this; exact this
    cases a with
    | none =>
      have h0 := hnil rfl
      have : ns = [] := List.length_eq_zero_iff.1 (by simp at hcap; omega)
      subst this
      simp [Conv.bytesToString, textOf]
    | some ad =>
      rw [run_bytesToString C.w ad _ cap ns ?_]
      · simp [textOf]
      · by_cases h0 : ns = []
        · subst h0; simp [loadCells, loadCellsFrom]
        · obtain ⟨h1, h2, h3⟩ := ha ad rfl (by simpa using h0)
          have := run_loadCells_list (P := P) C.w ad (ns.map (Value.int .u8)) (fun j v hj => by
            obtain ⟨bl, o, sp⟩ := ad
            simp only at h1 h2 h3
            subst h1
            have hjl := get_lt hj
            simp at hjl
            have h4 := h3 j (by simpa using hjl)
            rw [add_none, h4]
            have h5 := hx' j (.raw (.int .u8 ns[j])) (by rw [hf]; simp [hjl])
            have h6 := Vl.raw_inv h5
            simp [hjl] at hj
            rw [h6, hj])
          simpa using this
end
end Go.Ab
namespace Go.Ab
open Go
theorem rs_slob {H : Heap} {keep : Nat → Prop} {i ver n z : Nat} {es es' : List AV} (hk : ¬ keep i) (h : H[i]? = some (.vec z ver es)) (hle : n ≤ es.length) (hp : ∀ x ∈ es', Pur x) (he : es' = es) : Rs H keep (.slo i ver 0 n) (.slb z n es') := by
  subst he
  exact .slob hk h hle rfl (fun k x x' h1 h2 => by rw [h1] at h2; cases h2; rfl) (fun k x x' h1 h2 => by rw [h1] at h2; cases h2; exact (hp _ (mem_get h1)).rs)
theorem rs_slbv {H : Heap} {keep : Nat → Prop} {n z : Nat} {es es' : List AV} (hl : n ≤ es.length) (hp : ∀ x ∈ es, Pur x) (he : es' = es.take n) : Rs H keep (.slb z n es) (.sl z fL es') := by
  subst he
  refine .slbv (by simp; omega) (fun k x x' h1 h2 => ?_) (fun k x x' h1 h2 => ?_) <;>
  · have hk := get_lt h2
    simp at hk
    rw [List.getElem?_take_of_lt (by omega), h1] at h2
    cases h2
    first | rfl | exact (hp _ (mem_get h1)).rs
theorem elD {F : Frm} {H : Heap} {P : Program} {op : Op} {v w : AV} {H1 : Heap} (h : OpOk P op F H v H1) (e : v = w) : OpOk P op F H w H1 := e ▸ h
end Go.Ab
namespace Go.Ab
open Go Go.ChangeShapes Go.WideShapes
theorem weightsAll_get {H : Type} {P : Program} {e : TypeId} {B : Nat} : ∀ {l : List (DataW H)}, (DataW.weightsAll P e l).all (· ≤ B) = true → ∀ {d : DataW H}, d ∈ l → (d.weights P e).all (· ≤ B) = true
  | [], _, _, h => by cases h
  | x :: l, hw, d, h => by
    simp only [DataW.weightsAll, List.all_append, Bool.and_eq_true] at hw
    rcases List.mem_cons.1 h with rfl | h
    · exact hw.1
    · exact weightsAll_get hw.2 h
section
variable {H : Type} {enc : TypeId × Value → H} {P : Program} {W : World} {spare : Nat → Bool} {held : Bool}

/-- A row of elements that are read one by one, with the bound on its bulk and on theirs. -/
theorem vl_sliceW {α : Type} {t e : TypeId} {z by_ B fuel : Nat} {v : Value} {d : DataW H} {ps : List MemPlace} (f : α → AV) (Pre : α → Prop) (hz : 0 < z) (ht : P.underlying t = some (.slice e)) (hc : P.cellsOf e = z)
    (hby : P.bytesOf e = by_) (h : DataW.trod enc P W 0 spare held fuel t [v] = some (d, ps)) (hw : (d.weights P t).all (· ≤ B) = true)
    (dec : ∀ n cs x, cs.length = z → DataW.trod enc P W 0 spare held n e cs = some x → (x.1.weights P e).all (· ≤ B) = true → ∃ a, Pre a ∧ (f a).cells.length = z ∧ ∀ k y, (f a).cells[k]? = some y → Vl (C0 W) y (cs.getD k undef)) :
    ∃ l : List α, (∀ a ∈ l, Pre a) ∧ l.length * by_ ≤ B ∧ Vl (C0 W) (.sl z false (l.map f)) v := by
  rcases Deep.open_slice ht h with ⟨h1, _⟩ | ⟨a, len0, cap0, m, n, D, Pl, h1, _, hlc, hcm, hm, hxe, hx⟩
  · obtain rfl : v = .slice none 0 0 := by simpa using h1
    exact ⟨[], by simp, by simp, .sl (es := []) (fun _ => undef) hz (Nat.le_refl _) (by simp) (fun _ => rfl) (fun e he => by cases he) (fun x hx => by cases hx) (fun _ x hx => by cases hx) (fun k x hx => by simp [flat] at hx)⟩
  · obtain rfl : v = .slice (some a) len0 cap0 := by simpa using h1
    obtain ⟨rfl, _⟩ := Prod.mk.inj hxe
    simp only [DataW.weights, ht, List.all_cons, List.all_append, Bool.and_eq_true, decide_eq_true_eq, List.length_map, List.length_range, hby] at hw
    obtain ⟨hw1, hw2, _⟩ := hw
    have hlb : len0 * by_ ≤ B := Nat.le_trans (Nat.mul_le_mul_right _ (by omega)) hw1
    have hlm : len0 ≤ m := by rw [hm]; split <;> omega
    have each : ∀ i : Nat, ∃ a' : Option (α × List Value), i < len0 → ∃ x cs', a' = some (x, cs') ∧ W.cells? 0 (a.add (i * z)) z = some cs' ∧ Pre x ∧ (f x).cells.length = z ∧ ∀ k y, (f x).cells[k]? = some y → Vl (C0 W) y (cs'.getD k undef) := fun i => by
      by_cases hi : i < len0
      · obtain ⟨cs', hcs, htr⟩ := hx i (by omega)
        rw [hc] at hcs
        obtain ⟨x, h1, h2, h3⟩ := dec n cs' _ (World.cells?_some hcs).2.1 htr (weightsAll_get hw2 (List.mem_map.2 ⟨i, List.mem_range.2 hi, rfl⟩))
        exact ⟨some (x, cs'), fun _ => ⟨x, cs', rfl, hcs, h1, h2, h3⟩⟩
      · exact ⟨none, fun h => absurd h hi⟩
    obtain ⟨F, hF⟩ : ∃ F : Nat → Option (α × List Value), ∀ i, i < len0 → ∃ x cs', F i = some (x, cs') ∧ W.cells? 0 (a.add (i * z)) z = some cs' ∧ Pre x ∧ (f x).cells.length = z ∧ ∀ k y, (f x).cells[k]? = some y → Vl (C0 W) y (cs'.getD k undef) :=
      ⟨fun i => Classical.choose (each i), fun i hi => Classical.choose_spec (each i) hi⟩
    let l : List α := (List.range len0).filterMap fun i => (F i).map (·.1)
    have hl : ∀ i, i < len0 → ∃ x cs', l[i]? = some x ∧ F i = some (x, cs') := by
      have key : ∀ n, n ≤ len0 → ((List.range n).filterMap fun i => (F i).map (·.1)).length = n ∧ ∀ i, i < n → ∃ x cs', ((List.range n).filterMap fun i => (F i).map (·.1))[i]? = some x ∧ F i = some (x, cs') := by
        intro n
        induction n with
        | zero => exact fun _ => ⟨rfl, fun i hi => by omega⟩
        | succ n ih =>
          intro hn
          obtain ⟨i1, i2⟩ := ih (by omega)
          obtain ⟨x, cs', hFn, _⟩ := hF n (by omega)
          rw [List.range_succ, List.filterMap_append]
          have hone : (List.filterMap (fun i => (F i).map (·.1)) [n]) = [x] := by simp [hFn]
          rw [hone]
          refine ⟨by simp [i1], fun i hi => ?_⟩
          rcases Nat.lt_or_ge i n with h | h
          · obtain ⟨y, c, h1, h2⟩ := i2 i h
            exact ⟨y, c, by rw [List.getElem?_append_left (by omega)]; exact h1, h2⟩
          · have : i = n := by omega
            subst this
            exact ⟨x, cs', by rw [List.getElem?_append_right (by omega), i1]; simp, hFn⟩
      exact (key len0 (Nat.le_refl _)).2
    have hll : l.length = len0 := by
      have key : ∀ n, n ≤ len0 → ((List.range n).filterMap fun i => (F i).map (·.1)).length = n := by
        intro n
        induction n with
        | zero => exact fun _ => rfl
        | succ n ih =>
          intro hn
          obtain ⟨x, cs', hFn, _⟩ := hF n (by omega)
          rw [List.range_succ, List.filterMap_append, List.length_append, ih (by omega)]
          simp [hFn]
      exact key len0 (Nat.le_refl _)
    have hat : ∀ i x, l[i]? = some x → ∃ cs', W.cells? 0 (a.add (i * z)) z = some cs' ∧ Pre x ∧ (f x).cells.length = z ∧ ∀ k y, (f x).cells[k]? = some y → Vl (C0 W) y (cs'.getD k undef) := fun i x hxi => by
      have hi : i < len0 := by rw [← hll]; exact get_lt hxi
      obtain ⟨x1, c1, e1, e2⟩ := hl i hi
      obtain ⟨x2, c2, e3, e4, e5, e6, e7⟩ := hF i hi
      rw [e1] at hxi; cases hxi
      rw [e2] at e3; cases e3
      exact ⟨c1, e4, e5, e6, e7⟩
    have hmem : ∀ x ∈ l, ∃ i, l[i]? = some x := fun x hx => List.getElem?_of_mem hx
    refine ⟨l, fun x hx => by obtain ⟨i, hi⟩ := hmem x hx; obtain ⟨_, _, h, _⟩ := hat i x hi; exact h, by rw [hll]; exact hlb, ?_⟩
    have hz' : ∀ e ∈ l.map f, e.cells.length = z := fun e he => by
      obtain ⟨x, hx, rfl⟩ := List.mem_map.1 he
      obtain ⟨i, hi⟩ := hmem x hx
      obtain ⟨_, _, _, h, _⟩ := hat i x hi
      exact h
    -- cell by cell
    have hcell : ∀ i, i < len0 → ∀ j, j < z → ∃ cs', W.cells? 0 (a.add (i * z)) z = some cs' ∧ W.cell? ⟨a.block, a.off + (i * z + j), none⟩ = some (cs'.getD j undef) := fun i hi j hj => by
      obtain ⟨x, cs', _, h1, _⟩ := hF i hi
      obtain ⟨_, h2, h3⟩ := World.cells?_some h1
      refine ⟨cs', h1, ?_⟩
      have hsp : a.spot = none := by
        obtain ⟨y, c2, _, g1, _⟩ := hF 0 (by omega)
        obtain ⟨_, g2, g3⟩ := World.cells?_some g1
        have := g3 0 hz
        rw [List.getElem?_eq_getElem (by omega)] at this
        have := (cell_block this).1
        simpa [Addr.add] using this
      have h4 := h3 j hj
      have hadd : (a.add (i * z)).add j = ⟨a.block, a.off + (i * z + j), none⟩ := by
        obtain ⟨b, o, s⟩ := a
        simp only at hsp; subst hsp
        rw [add_none, add_none]; simp [Nat.add_assoc]
      rw [hadd] at h4
      rw [h4, List.getElem?_eq_getElem (by omega)]
      simp [List.getD, List.getElem?_eq_getElem (show j < cs'.length by omega)]
    have : (l.map f).length = len0 := by rw [List.length_map]; exact hll
    rw [← this]
    refine .sl (fun k => (W.cell? ⟨a.block, a.off + k, none⟩).getD undef) hz (by rw [this]; exact hlc) (by simp) (fun h => by cases h) hz' (fun x hx hne => ?_) (fun _ x hx hne h => h) (fun k y hy => ?_)
    · cases hx
      have hpos : 0 < len0 := by rw [← this]; exact List.length_pos_iff.2 hne
      have hsp : a.spot = none := by
        obtain ⟨y, c2, _, g1, _⟩ := hF 0 hpos
        obtain ⟨_, g2, g3⟩ := World.cells?_some g1
        have := g3 0 hz
        rw [List.getElem?_eq_getElem (by omega)] at this
        have := (cell_block this).1
        simpa [Addr.add] using this
      refine ⟨hsp, c0_bad, fun k hk => ?_⟩
      rw [this] at hk
      have hdm := Nat.div_add_mod k z
      have h1 : k / z < len0 := by rw [Nat.div_lt_iff_lt_mul hz]; exact hk
      obtain ⟨cs', _, h2⟩ := hcell (k / z) h1 (k % z) (Nat.mod_lt _ hz)
      rw [show k / z * z + k % z = k by rw [Nat.mul_comm]; exact hdm] at h2
      show W.cell? _ = some ((W.cell? _).getD undef)
      rw [h2]; rfl
    · have hk : k < len0 * z := by
        have h9 := get_lt hy
        rw [flat_length hz', this] at h9; exact h9
      have hdm := Nat.div_add_mod k z
      have h1 : k / z < len0 := by rw [Nat.div_lt_iff_lt_mul hz]; exact hk
      obtain ⟨x, c1, e1, e2⟩ := hl (k / z) h1
      obtain ⟨cs', g1, _, _, g2⟩ := hat _ _ e1
      obtain ⟨cs2, g3, g4⟩ := hcell (k / z) h1 (k % z) (Nat.mod_lt _ hz)
      rw [g1] at g3; cases g3
      have hkk : k / z * z + k % z = k := by rw [Nat.mul_comm]; exact hdm
      rw [hkk] at g4
      rw [g4]
      have := flat_get hz' (j := k / z) (e := f x) (by simp [e1]) (k := k % z) (Nat.mod_lt _ hz)
      rw [hkk, hy] at this
      exact g2 _ y this.symm

end
end Go.Ab
namespace Go.Ab
open Go

/-- A cell of an own row that holds a nil slice is taken for an own row. -/
theorem w_ownv {E : Env} {c : Code} {Q : Exit → Frm → Heap → Prop} {F : Frm} {H : Heap} {i j z ver : Nat} {es : List AV} (hz : 0 < z) (hi : H[i]? = some (.vec 1 ver es)) (hj : es[j]? = some (.raw (.slice none 0 0)))
    (h : AWp E c Q F ((H ++ [AObj.vec z 0 []]).set i (AObj.vec 1 ver (es.set j (.slo H.length 0 0 0))))) : AWp E c Q F H := by
  intro K C a h1 h2 h3 h4 h5
  subst h5
  obtain ⟨C', e1, e2, e3, e4, e5⟩ := push_nil h4.hp hz
  have hi0 := get_lt hi
  have hi' : C'.H[i]? = some (.vec 1 ver es) := by rw [e5, List.getElem?_append_left hi0]; exact hi
  have hil' := get_lt hi'
  obtain ⟨g0, g1, g2, g3⟩ := e3.obj i _ hi'
  have hjl := get_lt hj
  have hcell : ∀ q ∈ es.set j (.slo C.H.length 0 0 0), q.cells.length = 1 := fun q hq => by
    rcases List.mem_or_eq_of_mem_set hq with hq | rfl
    · exact g1 q hq
    · rfl
  have := e3.upd C'.w i hil' (.vec 1 ver (es.set j (.slo C.H.length 0 0 0))) (C'.β i) (C'.κ i) rfl rfl rfl (Nat.le_refl _) (fun _ _ _ => rfl) (.inl rfl) _ rfl (by rw [hi']; exact ⟨rfl, Nat.le_refl _, fun _ => ⟨by simp, rfl, rfl⟩⟩)
    (fun ex => ⟨g0, hcell, by simpa using g2, by
      rcases g3 with g3 | ⟨b, cv, t, k1, k2, k3, k4⟩
      · exact .inl (by simpa using g3)
      · refine .inr ⟨b, cv, t, by simpa using k1, k2, by simpa using k3, fun k x hx => ?_⟩
        have f1 : ∀ l : List AV, (∀ q ∈ l, q.cells.length = 1) → ∀ k : Nat, (flat l)[k]? = Option.bind (l[k]?) (fun q : AV => q.cells[0]?) := by
          intro l hl k
          rcases Nat.lt_or_ge k l.length with hk | hk
          · have := flat_get hl (j := k) (e := l[k]) (List.getElem?_eq_getElem hk) (k := 0) (by omega)
            rw [Nat.mul_one, Nat.add_zero] at this
            rw [this, List.getElem?_eq_getElem hk]; rfl
          · rw [List.getElem?_eq_none (by rw [flat_length hl]; omega), List.getElem?_eq_none hk]; rfl
        rw [f1 _ hcell] at hx
        by_cases hk : k = j
        · subst hk
          rw [List.getElem?_set_self hjl] at hx
          simp only [Option.bind_some, AV.cells, List.getElem?_cons_zero, Option.some.injEq] at hx
          subst hx
          have h5 := k4 k (.raw (.slice none 0 0)) (by rw [f1 _ g1, hj]; rfl)
          rw [Vl.raw_inv h5]; exact e4.mono ex
        · rw [List.getElem?_set_ne (fun h => hk h.symm), ← f1 _ g1] at hx
          exact (k4 k x hx).mono ex⟩)
  obtain ⟨x1, x2⟩ := this
  rw [← e1]
  exact h K { C' with w := C'.w, H := C'.H.set i (.vec 1 ver (es.set j (.slo C.H.length 0 0 0))), β := fun k => if k = i then C'.β i else C'.β k, κ := fun k => if k = i then C'.κ i else C'.κ k } a h1 h2 h3
    { hp := x2, size := h4.size, fr := (h4.fr.mono e2).mono x1, marks := (h4.marks.mono e2).mono x1 } (by show C'.H.set _ _ = _; rw [e5])

/-- All of a row of nil slices is taken for own rows. -/
theorem w_owns {E : Env} {c : Code} {Q : Exit → Frm → Heap → Prop} {F : Frm} {i z ver : Nat} (hz : 0 < z) : ∀ (n : Nat) {H : Heap} (es : List AV), (∀ k, k < n → es[k]? = some (.raw (.slice none 0 0))) → H[i]? = some (.vec 1 ver es) →
    AWp E c Q F ((H ++ List.replicate n (AObj.vec z 0 [])).set i (AObj.vec 1 ver ((List.range n).map (fun k => AV.slo (H.length + k) 0 0 0) ++ es.drop n))) → AWp E c Q F H
  | 0, H, es, _, hi, h => by
    have e : H.set i (.vec 1 ver es) = H := by
      apply List.ext_getElem?
      intro q
      rw [List.getElem?_set]
      split
      · rename_i hq; subst hq; rw [hi]; simp [get_lt hi]
      · rfl
    simp only [List.replicate_zero, List.append_nil, List.range_zero, List.map_nil, List.nil_append, List.drop_zero, e] at h
    exact h
  | n + 1, H, es, hn, hi, h => by
    refine w_owns hz n es (fun k hk => hn k (by omega)) hi ?_
    have hl : ((List.range n).map (fun k => AV.slo (H.length + k) 0 0 0)).length = n := by simp
    have hnl := get_lt (hn n (by omega))
    have hil := get_lt hi
    have hle : (H ++ List.replicate n (AObj.vec z 0 [])).length = H.length + n := by simp
    refine w_ownv (i := i) (j := n) (z := z) (ver := ver) (es := (List.range n).map (fun k => AV.slo (H.length + k) 0 0 0) ++ es.drop n) hz (by rw [List.getElem?_set_self (by omega)]) (by
      rw [List.getElem?_append_right (by omega), hl, Nat.sub_self, List.getElem?_drop, Nat.add_zero]; exact hn n (by omega)) ?_
    have e1 : ((H ++ List.replicate n (AObj.vec z 0 [])).set i (.vec 1 ver ((List.range n).map (fun k => AV.slo (H.length + k) 0 0 0) ++ es.drop n))).length = H.length + n := by simp
    have e2 : ((List.range n).map (fun k => AV.slo (H.length + k) 0 0 0) ++ es.drop n).set n (.slo (H.length + n) 0 0 0) = (List.range (n + 1)).map (fun k => AV.slo (H.length + k) 0 0 0) ++ es.drop (n + 1) := by
      have e0 : es.drop n = es[n] :: es.drop (n + 1) := List.drop_eq_getElem_cons hnl
      rw [List.set_append_right _ _ (by omega), hl, Nat.sub_self, e0, List.range_succ, List.map_append, List.set_cons_zero]
      simp
    rw [e1, e2]
    have e3 : ((H ++ List.replicate n (AObj.vec z 0 [])).set i (.vec 1 ver ((List.range n).map (fun k => AV.slo (H.length + k) 0 0 0) ++ es.drop n)) ++ [AObj.vec z 0 []]).set i (.vec 1 ver ((List.range (n + 1)).map (fun k => AV.slo (H.length + k) 0 0 0) ++ es.drop (n + 1))) =
        (H ++ List.replicate (n + 1) (AObj.vec z 0 [])).set i (.vec 1 ver ((List.range (n + 1)).map (fun k => AV.slo (H.length + k) 0 0 0) ++ es.drop (n + 1))) := by
      rw [List.replicate_succ', ← List.append_assoc]
      rw [List.set_append_left i _ (by rw [List.length_set]; omega), List.set_set, List.set_append_left (s := H ++ List.replicate n (AObj.vec z 0 [])) i _ (by omega)]
    rw [e3]; exact h

/-- One operation, its answer's heap told in other words. -/
theorem a_opH {E : Env} {ops : Array Oper} {Q : Frm → Heap → Prop} {rest : List Oper} {F : Frm} {H H1 H' : Heap} {op : Op} {d : Tmp} {t : TypeId} {p : String} {af : Array Edge} {g : Option (Nat × Bool)} {v : AV}
    (hg : gd ops F g = some true) (h : OpOk E.P op F H v H1) (e : H1 = H') (k : AOps E ops Q rest ((d, v) :: F) H') : AOps E ops Q (⟨some d, op, t, p, af, g⟩ :: rest) F H := by
  subst e; exact a_op hg h k
theorem a_opH0 {E : Env} {ops : Array Oper} {Q : Frm → Heap → Prop} {rest : List Oper} {F : Frm} {H H1 H' : Heap} {op : Op} {t : TypeId} {p : String} {af : Array Edge} {g : Option (Nat × Bool)} {v : AV}
    (hg : gd ops F g = some true) (h : OpOk E.P op F H v H1) (e : H1 = H') (k : AOps E ops Q rest F H') : AOps E ops Q (⟨none, op, t, p, af, g⟩ :: rest) F H := by
  subst e; exact a_op0 hg h k
end Go.Ab
namespace Go.Ab
open Go
section
variable {P : Program} {F : Frm} {H : Heap}
theorem set_same {α : Type} {l : List α} {i : Nat} {x : α} (h : l[i]? = some x) : l.set i x = l := by
  apply List.ext_getElem?
  intro q
  rw [List.getElem?_set]
  split
  · rename_i hq; subst hq; rw [h]; simp [get_lt h]
  · rfl
/-- clear, of a part of an own row. -/
theorem o_clr {e t : TypeId} {x : Operand} {q ver off len z bytes : Nat} {zs : List Value} {x0 : AV} {es : List AV} (he : ElemOk P t e z zs x0 bytes) (hx : evx F x = some (.slo q ver off len)) (hH : H[q]? = some (.vec z ver es)) :
    OpOk P (.call { callee := .builtin .clear, args := #[x], argTypes := #[t] }) F H (.tup []) (H.set q (.vec z ver (es.take off ++ List.replicate len x0 ++ es.drop (off + len)))) := by
  intro K C ρ oo ho hp hCH hρ
  subst hCH
  have hql := get_lt hH
  have hv := evx_eq hx ▸ hρ x
  have hxc := zeroAV_cells he.hx he.hzero he.hraw
  have ht' := sliceElem_spec he.ht
  generalize hr : ρ x = r at hv
  cases hv with
  | slo hi hvv hh =>
    obtain ⟨hol, rfl⟩ := hh _ _ hH
    obtain ⟨g0, g1, g2, g3⟩ := hp.obj q _ hH
    have hrun0 : ∀ w, (execOp ρ oo).run P w = ((Builtin.clear_ #[t] oo.type #[.slice ((C.β q).map fun b => ⟨b, off * z, none⟩) len (C.κ q - off)]).run P w).andThen fun v w => .ok (.value v) w := fun w => by
      simp only [execOp, ho, resolve, Sem.run_bind, Sem.run_pure, Result.andThen_ok, invoke, builtin]
      simp [hr]
    have tupv : ∀ C' : Ctx, Vl C' (.tup []) (.tuple #[]) := fun C' => .tup rfl (fun k x hx => by simp at hx)
    by_cases hl0 : len = 0
    · subst hl0
      have hes : es.take off ++ List.replicate 0 x0 ++ es.drop (off + 0) = es := by simp
      rw [hes, set_same hH]
      refine ⟨.value (.tuple #[]), _, C, ?_, .inl rfl, Ext.refl _, hp, tupv _, rfl⟩
      rw [hrun0]
      cases hb : C.β q with
      | none => simp [Builtin.clear_, run_underlying ht']
      | some b => simp [Builtin.clear_, run_underlying ht']
    · rcases g3 with ⟨g3, g4⟩ | ⟨b, c, tt, hb, hbk, hcs, hcv⟩
      · omega
      · obtain ⟨ii, hii⟩ : ∃ ii, P.info? e = some ii := by
          have hz := he.hz
          unfold tsize at hz; cases h : P.info? e with
          | none => simp [h] at hz
          | some ii => exact ⟨ii, rfl⟩
        obtain ⟨zv, hzv⟩ : ∃ zv, ii.zero = some zv := by
          have hzero := he.hzero
          cases h : ii.zero with
          | none => simp [tzero, hii, h] at hzero
          | some zv => exact ⟨zv, rfl⟩
        have hzc : zv.cells = zs.toArray := by
          have hzero := he.hzero
          simp [tzero, hii, hzv] at hzero; rw [← hzero]
        have hzz := he.hzl
        have hnl : (Builtin.zeroCells zv.cells len).toList.length = len * z := by simp [Builtin.zeroCells, hzc, hzz]
        have hget : ∀ k, k < len * z → (Builtin.zeroCells zv.cells len).toList[k]? = some (zs.getD (k % z) undef) := fun k hk => by
          have hm : k % zs.length < zs.length := Nat.mod_lt _ (by rw [hzz]; exact he.hz0)
          simp [Builtin.zeroCells, hzc, hzz, hk]
          rw [← hzz]
          simp [hm, List.getD]
        have hg : ∀ u ∈ (Builtin.zeroCells zv.cells len).toList, u.oneCell' = true := fun u hu => by
          obtain ⟨k, hk, rfl⟩ := List.mem_iff_getElem.1 hu
          have h1 := hget k (by omega)
          rw [List.getElem?_eq_getElem hk] at h1
          have h2 := Option.some.inj h1
          rw [h2]
          have hm : k % z < zs.length := by rw [hzz]; exact Nat.mod_lt _ he.hz0
          simp only [List.getD, List.getElem?_eq_getElem hm, Option.getD_some]
          exact he.hraw _ (List.getElem_mem _)
        have hmul : (off + len) * z ≤ C.κ q * z := Nat.mul_le_mul_right z (by omega)
        have hfit : off * z + (Builtin.zeroCells zv.cells len).toList.length ≤ c.size := by rw [hnl, hcs, ← Nat.add_mul]; exact hmul
        have hst := run_storeCells_at P b (off * z) tt (Builtin.zeroCells zv.cells len).toList 0 c C.w hbk (by simpa using hfit) hg
        simp only [Nat.add_zero] at hst
        obtain ⟨len', rfl⟩ : ∃ n, len = n + 1 := ⟨len - 1, by omega⟩
        have p1 : (splice c.toList (off * z) (Builtin.zeroCells zv.cells (len' + 1)).toList).toArray.size = C.κ q * z := by
          rw [List.size_toArray, splice_length _ _ _ (by simpa using hfit)]; simpa using hcs
        have hre : ∀ e ∈ List.replicate (len' + 1) x0, e.cells.length = z := fun e h => by rw [List.eq_of_mem_replicate h, hxc]; simpa using hzz
        have htk : ∀ e ∈ es.take off, e.cells.length = z := fun e h => g1 e (List.mem_of_mem_take h)
        have hcl : ∀ e ∈ es.take off ++ List.replicate (len' + 1) x0 ++ es.drop (off + (len' + 1)), e.cells.length = z := fun e h => by
          rcases List.mem_append.1 h with h | h
          · rcases List.mem_append.1 h with h | h
            · exact htk e h
            · exact hre e h
          · exact g1 e (List.mem_of_mem_drop h)
        have up := hp.upd (C.w.setRow b (splice c.toList (off * z) (Builtin.zeroCells zv.cells (len' + 1)).toList).toArray) q hql (.vec z ver (es.take off ++ List.replicate (len' + 1) x0 ++ es.drop (off + (len' + 1)))) (C.β q) (C.κ q) rfl rfl rfl (by simp [World.setRow])
          (fun b' _ hne => setRow_other C.w b b' _ (fun hh => hne (by rw [hb, hh]))) (.inl rfl) _ rfl (by rw [hH]; exact ⟨rfl, Nat.le_refl _, fun _ => ⟨by simp; omega, rfl, rfl⟩⟩)
          (fun ex => ⟨g0, hcl, by simp; omega, .inr ⟨b, _, tt, by simpa using hb, setRow_heap' hbk, by simpa using p1, fun k y hy => by
            have e0 : (splice c.toList (off * z) (Builtin.zeroCells zv.cells (len' + 1)).toList).toArray.getD k undef = ((splice c.toList (off * z) (Builtin.zeroCells zv.cells (len' + 1)).toList)[k]?).getD undef := by simp
            rw [e0, splice_get _ _ _ (by simpa using hfit), hnl]
            have l1 : (flat (es.take off)).length = off * z := by rw [flat_length htk]; simp; rw [Nat.min_eq_left (by omega)]
            have l2 : (flat (List.replicate (len' + 1) x0)).length = (len' + 1) * z := by rw [flat_length hre]; simp
            rw [flat_append, flat_append, List.append_assoc] at hy
            rcases Nat.lt_or_ge k (off * z) with hk | hk
            · rw [if_neg (by omega)]
              rw [List.getElem?_append_left (by omega), flat_take g1, List.getElem?_take_of_lt hk] at hy
              have := hcv k y hy
              exact (by simpa using this : Vl C y ((c.toList[k]?).getD undef)).mono ex
            · rw [List.getElem?_append_right (by omega), l1] at hy
              rcases Nat.lt_or_ge k (off * z + (len' + 1) * z) with hk2 | hk2
              · rw [if_pos ⟨hk, hk2⟩]
                rw [List.getElem?_append_left (by omega)] at hy
                obtain ⟨rfl, _⟩ := flat_replicate (len' + 1) x0 zs hxc (by rw [hzz]; exact he.hz0) _ y hy
                rw [hget _ (by omega), hzz]
                exact .raw _
              · rw [if_neg (by omega)]
                rw [List.getElem?_append_right (by omega), l2, flat_drop g1, List.getElem?_drop] at hy
                have := hcv _ y hy
                rw [show (off + (len' + 1)) * z + (k - off * z - (len' + 1) * z) = k by rw [Nat.add_mul]; omega] at this
                exact (by simpa using this : Vl C y ((c.toList[k]?).getD undef)).mono ex⟩⟩)
        refine ⟨.value (.tuple #[]), _, _, ?_, .inl rfl, up.1, up.2, tupv _, rfl⟩
        rw [hrun0, hb]
        simp only [Option.map_some, Builtin.clear_, List.getElem?_toArray]
        simp [run_underlying ht', zeroValue, typeInfo, hii, hzv, hst, splice]
end
end Go.Ab
