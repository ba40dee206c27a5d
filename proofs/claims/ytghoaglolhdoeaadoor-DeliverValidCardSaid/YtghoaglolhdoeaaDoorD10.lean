/- What functions of this program compute, and the laws of what they compute, under the bounds on lengths that each contract states. -/
import Derived.Test.YtghoaglolhdoeaaDoorD8
import Derived.Test.YtghoaglolhdoeaaDoorAb25
set_option linter.unusedSimpArgs false
set_option linter.unusedVariables false
namespace Go.Ab.D
open Go Go.Ab Go.Proofs

theorem cA_app (pt kind : Int) (R : List RuleR) (X : RuleR) : cA pt kind (R ++ [X]) = cA pt kind R + if sel pt kind X = true then 1 else 0 := by
  unfold cA; rw [List.filter_append, List.length_append]; congr 1; by_cases h : sel pt kind X = true <;> simp [h]
theorem cM_app (meets : RuleR → Bool) (pt kind : Int) (R : List RuleR) (X : RuleR) : cM meets pt kind (R ++ [X]) = cM meets pt kind R + if sel pt kind X = true ∧ meets X = true then 1 else 0 := by
  unfold cM; rw [List.filter_append, List.filter_append, List.length_append]; congr 1
  by_cases h : sel pt kind X = true <;> by_cases h2 : meets X = true <;> simp [h, h2]
theorem cM_le (meets : RuleR → Bool) (pt kind : Int) (R : List RuleR) : cM meets pt kind R ≤ cA pt kind R := by unfold cM cA; exact List.length_filter_le _ _
def hasB (X : RuleR) (R : List RuleR) (k : Nat) : Bool := (R.take k).any (fun y => decide (y.pt = X.pt) && decide (y.kind = X.kind))
theorem hasB_succ {X : RuleR} {R : List RuleR} {k : Nat} (h : k < R.length) : hasB X R (k + 1) = (hasB X R k || (decide (R[k].pt = X.pt) && decide (R[k].kind = X.kind))) := by
  unfold hasB; rw [List.take_succ_eq_append_getElem h, List.any_append]; simp
theorem hasB_iff {X : RuleR} {R : List RuleR} {k : Nat} (hk : R.length ≤ k) : hasB X R k = true ↔ 0 < cA X.pt X.kind R := by
  unfold hasB cA; rw [List.take_of_length_le hk, List.length_pos_iff_exists_mem]
  simp [List.any_eq_true, sel]
def insL (hol : List Int) (d : Int) (i : Nat) : List Int := hol.take i ++ d :: hol.drop i
theorem insL_len (hol : List Int) (d : Int) {i : Nat} (h : i ≤ hol.length) : (insL hol d i).length = hol.length + 1 := by simp [insL]; omega
theorem insL_at {hol : List Int} {d : Int} {i : Nat} (h : i ≤ hol.length) : ((insL hol d i).map intAV)[i]? = some (intAV d) := by
  simp [insL, List.getElem?_append_right, h]
theorem insL_pred {hol : List Int} {d : Int} {i : Nat} (h0 : 0 < i) (h : i ≤ hol.length) : ((insL hol d i).map intAV)[i - 1]? = some (intAV (hol[i - 1]'(by omega))) := by
  have : i - 1 < (hol.take i).length := by simp; omega
  simp only [insL, List.getElem?_map]
  rw [List.getElem?_append_left this, List.getElem?_take_of_lt (by omega), List.getElem?_eq_getElem (by omega)]; rfl
theorem insL_end (hol : List Int) (d : Int) : insL hol d hol.length = hol ++ [d] := by simp [insL]
theorem insL_swap {hol : List Int} {d : Int} {i : Nat} (h0 : 0 < i) (h : i ≤ hol.length) : (((insL hol d i).map intAV).set (i - 1) (intAV d)).set i (intAV (hol[i - 1]'(by omega))) = (insL hol d (i - 1)).map intAV := by
  obtain ⟨j, rfl⟩ : ∃ j, i = j + 1 := ⟨i - 1, by omega⟩
  simp only [Nat.add_sub_cancel]
  have hj : j < hol.length := by omega
  apply List.ext_getElem?
  intro q
  simp only [insL, List.getElem?_set, List.length_set, List.length_map, List.getElem?_map, List.length_append, List.length_take, List.length_cons, List.length_drop]
  by_cases q1 : q = j + 1
  · subst q1
    rw [if_pos rfl, if_pos (by omega), List.getElem?_append_right (by simp; omega), List.length_take, Nat.min_eq_left (by omega), show j + 1 - j = 0 + 1 by omega, List.getElem?_cons_succ, List.getElem?_drop]
    simp [hj]
  · rw [if_neg (by omega)]
    by_cases q2 : q = j
    · subst q2
      rw [if_pos rfl, if_pos (by omega), List.getElem?_append_right (by simp; omega)]; simp [Nat.min_eq_left (show q ≤ hol.length by omega)]
    · rw [if_neg (by omega)]
      rcases Nat.lt_or_ge q j with q3 | q3
      · rw [List.getElem?_append_left (by simp; omega), List.getElem?_append_left (by simp; omega), List.getElem?_take_of_lt (by omega), List.getElem?_take_of_lt (by omega)]
      · rw [List.getElem?_append_right (by simp; omega), List.getElem?_append_right (by simp; omega), List.length_take, List.length_take, Nat.min_eq_left (by omega), Nat.min_eq_left (by omega)]
        obtain ⟨m, rfl⟩ : ∃ m, q = j + 2 + m := ⟨q - (j + 2), by omega⟩
        rw [show j + 2 + m - (j + 1) = m + 1 by omega, show j + 2 + m - j = m + 1 + 1 by omega, List.getElem?_cons_succ, List.getElem?_cons_succ, List.getElem?_drop, List.getElem?_drop]
        congr 2; omega
theorem insL_cut {hol : List Int} {d : Int} {i : Nat} (h : i ≤ hol.length) : ((insL hol d i).map intAV).take i ++ ((insL hol d i).map intAV).drop (i + 1) = hol.map intAV := by
  rw [← List.map_take, ← List.map_drop, ← List.map_append]; congr 1
  simp only [insL]
  rw [List.take_append_of_le_length (by simp; omega), List.take_of_length_le (by simp; omega)]
  rw [show hol.take i ++ d :: hol.drop i = (hol.take i ++ [d]) ++ hol.drop i by simp, List.drop_append, List.drop_of_length_le (by simp; omega)]
  simp only [List.length_append, List.length_take, List.length_cons, List.length_nil, List.nil_append]
  rw [show i + 1 - (min i hol.length + (0 + 1)) = 0 by omega, List.drop_zero, List.take_append_drop]
structure SmOk (hol : List Int) (d : Int) (sm : List Int) : Prop where
  pw : sm.Pairwise (· < ·)
  mem : ∀ y, y ∈ sm ↔ y ∈ hol ∨ y = d
  len : sm.length ≤ hol.length + 1
theorem sm_ins {hol : List Int} {d : Int} {i : Nat} (hp : hol.Pairwise (· < ·)) (h : i ≤ hol.length) (hb : ∀ y ∈ hol.drop i, d < y) (ha : ∀ y ∈ hol.take i, y < d) : SmOk hol d (insL hol d i) where
  pw := by
    unfold insL
    refine List.pairwise_append.2 ⟨hp.sublist (List.take_sublist _ _), List.pairwise_cons.2 ⟨hb, hp.sublist (List.drop_sublist _ _)⟩, fun a h1 b h2 => ?_⟩
    rcases List.mem_cons.1 h2 with rfl | h2
    · exact ha a h1
    · have := ha a h1; have := hb b h2; omega
  mem := fun y => by
    unfold insL
    have := List.take_append_drop i hol
    rw [List.mem_append, List.mem_cons]
    constructor
    · rintro (h | h | h)
      · exact .inl (List.mem_of_mem_take h)
      · exact .inr h
      · exact .inl (List.mem_of_mem_drop h)
    · rintro (h | h)
      · rw [← this] at h
        rcases List.mem_append.1 h with h | h
        · exact .inl h
        · exact .inr (.inr h)
      · exact .inr (.inl h)
  len := by rw [insL_len hol d h]; omega
theorem sm_lo {hol : List Int} {d : Int} {i : Nat} (hp : hol.Pairwise (· < ·)) (h0 : 0 < i) (h : i ≤ hol.length) (hd : hol[i - 1]'(by omega) < d) : ∀ y ∈ hol.take i, y < d := by
  intro y hy
  obtain ⟨k, hk, rfl⟩ := List.mem_iff_getElem.1 hy
  simp at hk
  simp only [List.getElem_take]
  rcases Nat.lt_or_ge k (i - 1) with hk2 | hk2
  · have := srt hp (i := k) (j := i - 1) (by omega) hk2; omega
  · have : k = i - 1 := by omega
    subst this; exact hd
theorem sm_same {hol : List Int} {d : Int} (hp : hol.Pairwise (· < ·)) (hd : d ∈ hol) : SmOk hol d hol where
  pw := hp
  mem := fun y => ⟨.inl, fun h => h.elim id fun h => h ▸ hd⟩
  len := by omega
theorem incr_mk : ∀ (l : List Int) (last : Int), l.Pairwise (· < ·) → (∀ y ∈ l, last < y ∧ y ≤ 730484) → incr last l = true
  | [], _, _, _ => rfl
  | d :: t, last, hp, h => by
    obtain ⟨h1, h2⟩ := List.pairwise_cons.1 hp
    have h3 := h d (List.mem_cons_self ..)
    simp only [incr, Bool.and_eq_true, Bool.not_eq_true', Bool.or_eq_false_iff, decide_eq_false_iff_not]
    exact ⟨⟨by omega, by omega⟩, incr_mk t d h2 fun y hy => ⟨h1 y hy, (h y (List.mem_cons_of_mem _ hy)).2⟩⟩
theorem incr_le : ∀ (l : List Int) (last : Int), incr last l = true → ∀ y ∈ l, last < y ∧ y ≤ 730484
  | [], _, _, _, hy => by cases hy
  | d :: t, last, h, y, hy => by
    simp only [incr, Bool.and_eq_true, Bool.not_eq_true', Bool.or_eq_false_iff, decide_eq_false_iff_not] at h
    rcases List.mem_cons.1 hy with rfl | hy
    · omega
    · have := incr_le t d h.2 y hy; omega
theorem sm_wr {fl sm : List Int} {d : Int} (h : SmOk (offF fl) d sm) (h0 : 0 ≤ d) (h1 : d ≤ 2000) : wrF sm d = 0 := by
  have hR := offF_right fl
  simp only [rightF, Bool.and_eq_true] at hR
  have hl := offF_len fl
  have hsl := h.len
  have hi : incr (-1) sm = true := incr_mk sm (-1) h.pw fun y hy => by
    rcases (h.mem y).1 hy with hy | rfl
    · exact incr_le _ _ hR.1 y hy
    · omega
  have : rightF sm = true := by simp only [rightF, hi, Bool.true_and, decide_eq_true_eq]; omega
  simp [wrF, this, h0]; omega
theorem sel_eq {pt kind : Int} {X : RuleR} : sel pt kind X = true ↔ X.pt = pt ∧ X.kind = kind := by simp [sel]
theorem ruledF_kind (x : NoteR) : (ruledF x).kind = 1 ∨ (ruledF x).kind = 2 ∨ (ruledF x).kind = 3 := by
  unfold ruledF; split
  · exact .inl rfl
  · split
    · exact .inr (.inl rfl)
    · exact .inr (.inr rfl)
def S1 (p : PtR) (R : List RuleR) (d : Int) : Prop := 0 < cM (vacB d) p.id 2 R
def S2 (p : PtR) (R : List RuleR) (d : Int) : Prop := 0 < cA p.id 1 R ∧ cM (seaB d) p.id 1 R = 0
def S3 (p : PtR) (R : List RuleR) (d : Int) : Prop := 0 < cA p.id 3 R ∧ cM (wekB d) p.id 3 R = 0
theorem statF_3 {p : PtR} {R : List RuleR} {hol : List Int} {d : Int} : statF p R hol d = 3 ↔ S1 p R d := by
  unfold statF S1; split
  · exact ⟨fun _ => by omega, fun _ => rfl⟩
  · split <;> constructor <;> intro h <;> omega
theorem statF_1 {p : PtR} {R : List RuleR} {hol : List Int} {d : Int} : statF p R hol d = 1 ↔ ¬ S1 p R d ∧ ¬ S2 p R d ∧ ¬ S3 p R d ∧ ¬ (p.street = 0 ∧ d ∈ hol) := by
  unfold statF S1 S2 S3; split
  · constructor
    · intro h; omega
    · intro h; exact absurd (by omega) h.1
  · rename_i h1
    split
    · rename_i h2
      constructor
      · intro h; omega
      · rintro ⟨_, h3, h4, h5⟩
        rcases h2 with h2 | h2 | h2
        · exact absurd ⟨by omega, by omega⟩ h3
        · exact absurd ⟨by omega, by omega⟩ h4
        · exact absurd h2 h5
    · rename_i h2
      simp only [not_or] at h2
      refine ⟨fun _ => ⟨by omega, fun h => h2.1 ⟨by omega, by omega⟩, fun h => h2.2.1 ⟨by omega, by omega⟩, h2.2.2⟩, fun _ => rfl⟩
theorem more_law (R : List RuleR) (X : RuleR) (hX : X.kind = 1 ∨ X.kind = 2 ∨ X.kind = 3) (hol sm : List Int) (d : Int) (hs : SmOk hol d sm) (p : PtR) (k : Nat) (hk : R.length ≤ k) :
    (p.id ≠ X.pt → statF p R hol d = statF p (R ++ [X]) hol d) ∧ (hasB X R k = true → X.kind ≠ 2 → statF p R hol d = 1 → statF p (R ++ [X]) hol d = 1) ∧
    ((hasB X R k = false ∨ X.kind = 2) → statF p (R ++ [X]) hol d = 1 → statF p R hol d = 1) ∧ (p.street ≠ 0 → statF p R hol d = statF p R sm d) ∧ (p.street = 0 → statF p R sm d ≠ 1) ∧ (statF p R hol d = 3 → statF p R sm d = 3) := by
  have hh := hasB_iff (X := X) hk
  refine ⟨fun hne => ?_, fun h1 h2 h3 => ?_, fun h1 h2 => ?_, fun hst => statF_street _ _ _ _ _ hst, fun hst h => ?_, fun h => ?_⟩
  · have : ∀ q, ¬ sel p.id q X = true := fun q h => hne (sel_eq.1 h).1.symm
    simp only [statF, cA_app, cM_app, this, if_false, Nat.add_zero, false_and, Bool.false_eq_true]
  · rw [statF_1] at h3 ⊢
    obtain ⟨a1, a2, a3, a4⟩ := h3
    have h1' := hh.1 h1
    refine ⟨?_, ?_, ?_, a4⟩
    · unfold S1 at a1 ⊢
      rw [cM_app, if_neg (fun h => h2 (sel_eq.1 h.1).2)]; exact a1
    · unfold S2 at a2 ⊢
      rintro ⟨b1, b2⟩
      rw [cM_app] at b2
      rw [cA_app] at b1
      by_cases hs : sel p.id 1 X = true
      · obtain ⟨e1, e2⟩ := sel_eq.1 hs
        rw [e1, e2] at h1'
        exact a2 ⟨h1', by omega⟩
      · rw [if_neg hs] at b1; exact a2 ⟨b1, by omega⟩
    · unfold S3 at a3 ⊢
      rintro ⟨b1, b2⟩
      rw [cM_app] at b2
      rw [cA_app] at b1
      by_cases hs : sel p.id 3 X = true
      · obtain ⟨e1, e2⟩ := sel_eq.1 hs
        rw [e1, e2] at h1'
        exact a3 ⟨h1', by omega⟩
      · rw [if_neg hs] at b1; exact a3 ⟨b1, by omega⟩
  · rw [statF_1] at h2 ⊢
    obtain ⟨a1, a2, a3, a4⟩ := h2
    have hno : hasB X R k = false → ¬ 0 < cA X.pt X.kind R := fun h hc => by rw [hh.2 hc] at h; cases h
    refine ⟨?_, ?_, ?_, a4⟩
    · unfold S1 at a1 ⊢
      rw [cM_app] at a1; omega
    · unfold S2 at a2 ⊢
      rintro ⟨b1, b2⟩
      refine a2 ⟨by rw [cA_app]; omega, ?_⟩
      rw [cM_app, if_neg]; exact b2
      rintro ⟨hs, _⟩
      obtain ⟨e1, e2⟩ := sel_eq.1 hs
      rcases h1 with h1 | h1
      · have := hno h1; rw [e1, e2] at this; exact this b1
      · omega
    · unfold S3 at a3 ⊢
      rintro ⟨b1, b2⟩
      refine a3 ⟨by rw [cA_app]; omega, ?_⟩
      rw [cM_app, if_neg]; exact b2
      rintro ⟨hs, _⟩
      obtain ⟨e1, e2⟩ := sel_eq.1 hs
      rcases h1 with h1 | h1
      · have := hno h1; rw [e1, e2] at this; exact this b1
      · omega
  · rw [statF_1] at h
    exact h.2.2.2 ⟨hst, (hs.mem d).2 (.inr rfl)⟩
  · rw [statF_3] at h ⊢; exact h
end Go.Ab.D
