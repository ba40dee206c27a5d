/- What functions of this program compute, and the laws of what they compute, under the bounds on lengths that each contract states. -/
import Derived.Test.YtghoaglolhdoeaaDoorD13
import Derived.Test.YtghoaglolhdoeaaDoorD15
set_option linter.unusedSimpArgs false
set_option linter.unusedVariables false
namespace Go.Ab.D
open Go Go.Ab Go.Proofs
theorem any_pos (g : RuleR → Bool) (R : List RuleR) : 0 < (R.filter g).length ↔ R.any g = true := by
  rw [List.length_pos_iff_exists_mem]; simp [List.any_eq_true]
theorem cA_any (p q : Int) (R : List RuleR) : 0 < cA p q R ↔ R.any (sel p q) = true := any_pos _ _
theorem cM_any (m : RuleR → Bool) (p q : Int) (R : List RuleR) : 0 < cM m p q R ↔ R.any (fun x => sel p q x && m x) = true := by
  rw [← any_pos]; unfold cM; rw [List.filter_filter]
  rw [show (fun a => m a && sel p q a) = (fun x => sel p q x && m x) from funext fun x => Bool.and_comm _ _]
theorem any_cong {g h : RuleR → Bool} {R : List RuleR} (e : ∀ x ∈ R, g x = h x) : R.any g = R.any h := by
  induction R with
  | nil => rfl
  | cons a t ih => simp only [List.any_cons]; rw [e a (List.mem_cons_self ..), ih fun x hx => e x (List.mem_cons_of_mem _ hx)]
def fB (g : RuleR → Bool) (R : List RuleR) (k : Nat) : Bool := (R.take k).any g
theorem fB_succ {g : RuleR → Bool} {R : List RuleR} {k : Nat} (h : k < R.length) : fB g R (k + 1) = (fB g R k || g R[k]) := by
  unfold fB; rw [List.take_succ_eq_append_getElem h, List.any_append]; simp
theorem fB_all {g : RuleR → Bool} {R : List RuleR} {k : Nat} (h : R.length ≤ k) : fB g R k = R.any g := by unfold fB; rw [List.take_of_length_le h]
def gV (p d : Int) (x : RuleR) : Bool := decide (x.pt = p) && decide (x.kind = 2) && (decide (x.frm ≤ d) && decide (d ≤ x.to))
def gS (p : Int) (x : RuleR) : Bool := decide (x.pt = p) && decide (x.kind = 1)
def gN (p w : Int) (x : RuleR) : Bool := decide (x.pt = p) && decide (x.kind = 1) && ((decide (x.frm ≤ w) && decide (w ≤ x.to)) || (decide (x.frm > x.to) && (decide (w ≥ x.frm) || decide (w ≤ x.to))))
def gW (p : Int) (x : RuleR) : Bool := decide (x.pt = p) && decide (x.kind = 3)
def gK (p w : Int) (x : RuleR) : Bool := decide (x.pt = p) && decide (x.kind = 3) && decide (x.days / 2 ^ min w.toNat IntKind.u8.bits % 2 = 1)
def fH (d : Int) (hol : List Int) (k : Nat) : Bool := (hol.take k).any (fun x => decide (x = d))
theorem fH_succ {d : Int} {hol : List Int} {k : Nat} (h : k < hol.length) : fH d hol (k + 1) = (fH d hol k || decide (hol[k] = d)) := by
  unfold fH; rw [List.take_succ_eq_append_getElem h, List.any_append]; simp
theorem fH_all {d : Int} {hol : List Int} {k : Nat} (h : hol.length ≤ k) : fH d hol k = true ↔ d ∈ hol := by
  unfold fH; rw [List.take_of_length_le h]; simp [List.any_eq_true]
def wantF (p : Int) (v s n w k h : Bool) : Int :=
  if p < 1 ∨ p > 6 then 0 else if v = true then 3 else if (s = true ∧ n = false) ∨ (w = true ∧ k = false) ∨ (p > 3 ∧ h = true) then 2 else 1
theorem sixPt_id (i : Int) : (sixPt i).id = i := by unfold sixPt; split <;> rfl
theorem sixPt_street (i : Int) : (sixPt i).street = 0 ↔ i > 3 := by
  unfold sixPt; split
  · simp [sixA]; omega
  · simp [sixB]; omega
theorem six_of {p : Int} (h0 : 1 ≤ p) (h1 : p ≤ 6) : findP (sixL 6) p = some (sixPt p) := by
  obtain ⟨n, rfl⟩ : ∃ n : Nat, p = n := ⟨p.toNat, by omega⟩
  match n, h0, h1 with
  | 1, _, _ | 2, _, _ | 3, _, _ | 4, _, _ | 5, _, _ | 6, _, _ => rfl
  | 0, h, _ => exact absurd h (by omega)
  | n + 7, _, h => exact absurd h (by omega)
theorem six_out {p : Int} (h : p < 1 ∨ p > 6) : findP (sixL 6) p = none := by
  unfold findP; rw [List.find?_eq_none]
  intro x hx
  unfold sixL at hx
  obtain ⟨j, hj, rfl⟩ := List.mem_map.1 hx
  rw [List.mem_range] at hj
  rw [sixPt_id]; simp; omega
theorem mlen {m : Int} (h1 : 1 ≤ m) (h2 : m ≤ 12) : 22 ≤ fst 2004 (m + 1) - fst 2004 m := by
  have hl : leap 2004 = true := by decide
  obtain ⟨n, rfl⟩ : ∃ n : Nat, m = n := ⟨m.toNat, by omega⟩
  unfold fst
  rw [hl]
  match n, h1, h2 with
  | 1, _, _ | 2, _, _ | 3, _, _ | 4, _, _ | 5, _, _ | 6, _, _ | 7, _, _ | 8, _, _ | 9, _, _ | 10, _, _ | 11, _, _ | 12, _, _ => simp [ah]
  | n + 13, _, h => exact absurd h (by omega)
def dtd (n : Int) : Prop := dated 2004 (n.tdiv 100) (n.tmod 100) = true
theorem dtd_of {m q : Int} (h1 : 1 ≤ m) (h2 : m ≤ 12) (h3 : 1 ≤ q) (h4 : q ≤ 22) : dtd (100 * m + q) := by
  have := mlen h1 h2
  unfold dtd
  rw [Int.tdiv_eq_ediv_of_nonneg (by omega), Int.tmod_eq_emod_of_nonneg (by omega), show (100 * m + q) / 100 = m by omega, show (100 * m + q) % 100 = q by omega]
  exact decide_eq_true ⟨by decide, by decide, h1, h2, h3, by omega⟩
theorem yrE_of {d f t : Int} (hd : wi d 730484 = 0) (hf : dtd f) (ht : dtd t) : yrE d f t = 0 := by
  unfold yrE; rw [if_neg (by omega), if_pos ⟨hf, ht⟩]
theorem ruledF_dates {x : NoteR} (h : x.ok) (hk : (ruledF x).kind = 1) : dtd (ruledF x).frm ∧ dtd (ruledF x).to := by
  unfold NoteR.ok u8r at h
  unfold ruledF at hk ⊢
  split at hk
  · rename_i h0
    rw [if_pos h0]
    dsimp only
    rw [show 100 * (1 + x.a % 12) + 1 + x.a / 12 = 100 * (1 + x.a % 12) + (1 + x.a / 12) by omega, show 100 * (1 + x.b % 12) + 1 + x.b / 12 = 100 * (1 + x.b % 12) + (1 + x.b / 12) by omega]
    exact ⟨dtd_of (by omega) (by omega) (by omega) (by omega), dtd_of (by omega) (by omega) (by omega) (by omega)⟩
  · split at hk <;> simp at hk
theorem ruledF_kind' (x : NoteR) : ((ruledF x).kind = 1 ∧ (ruledF x).days = 0) ∨ ((ruledF x).kind = 2 ∧ (ruledF x).frm = 2 * x.a ∧ (ruledF x).to = 2 * x.a + x.b % 200 ∧ (ruledF x).days = 0) ∨ ((ruledF x).kind = 3 ∧ (ruledF x).frm = 0 ∧ (ruledF x).to = 0 ∧ (ruledF x).days = 1 + x.a % 127) := by
  unfold ruledF; split
  · exact .inl ⟨rfl, rfl⟩
  · split
    · exact .inr (.inl ⟨rfl, rfl, rfl, rfl⟩)
    · exact .inr (.inr ⟨rfl, rfl, rfl, rfl⟩)
theorem ruledF_okR {x : NoteR} (h : x.ok) : okR (sixL 6) (ruledF x) = true := by
  have hd := ruledF_dates h
  have hpt : (ruledF x).pt = 1 + x.point % 6 := by unfold ruledF; split <;> (try split) <;> rfl
  have hs : (findP (sixL 6) (ruledF x).pt).isSome = true := by rw [hpt, six_of (by omega) (by omega)]; rfl
  have h' := h
  unfold NoteR.ok u8r at h'
  unfold okR
  rw [hs]
  rcases ruledF_kind' x with hk | hk | hk
  · obtain ⟨h1, h2⟩ := hd hk.1
    rw [if_pos hk.1]
    have e1 : yd (ruledF x).frm = true := decide_eq_true (yrE_of (by decide) h1 h1)
    have e2 : yd (ruledF x).to = true := decide_eq_true (yrE_of (by decide) h2 h2)
    simp [e1, e2, hk.2]
  · rw [if_neg (by omega), if_pos hk.1]
    simp; omega
  · rw [if_neg (by omega), if_neg (by omega), if_pos hk.1]
    simp; omega
theorem vF_all (pts : List PtR) : ∀ (R : List RuleR) (i : Int), (∀ x ∈ R, okR pts x = true) → vF pts R i = (0, 0)
  | [], _, _ => rfl
  | x :: t, i, h => by simp only [vF, h x (List.mem_cons_self ..), if_true]; exact vF_all pts t (i + 1) fun y hy => h y (List.mem_cons_of_mem _ hy)
theorem rulesF_mem {l : List NoteR} {y : RuleR} (hy : y ∈ rulesF l) : ∃ x ∈ l, ruledF x = y := by
  unfold rulesF at hy
  obtain ⟨x, hx, rfl⟩ := List.mem_map.1 hy
  exact ⟨x, List.mem_of_mem_take hx, rfl⟩
theorem rulesF_okR {l : List NoteR} (hx : ∀ x ∈ l, x.ok) : ∀ y ∈ rulesF l, okR (sixL 6) y = true := fun y hy => by
  obtain ⟨x, h, rfl⟩ := rulesF_mem hy; exact ruledF_okR (hx x h)
theorem rulesF_valid {l : List NoteR} (hx : ∀ x ∈ l, x.ok) : validF (sixL 6) (rulesF l) = (0, 0) := by
  have := rulesF_len l
  rw [validF, if_neg (by omega)]; exact vF_all _ _ _ (rulesF_okR hx)
theorem rules_law {l : List NoteR} (hx : ∀ x ∈ l, x.ok) (fl : List Int) (d p : Int) (h0 : 0 ≤ d) (h1 : d ≤ 2000) (k j : Nat) (hk : (rulesF l).length ≤ k) (hj : (offF fl).length ≤ j) :
    lstat (sixL 6) (rulesF l) (offF fl) p d = wantF p (fB (gV p d) (rulesF l) k) (fB (gS p) (rulesF l) k) (fB (gN p (now d)) (rulesF l) k) (fB (gW p) (rulesF l) k) (fB (gK p (d % 7)) (rulesF l) k) (fH d (offF fl) j) := by
  have hw := offF_wr (l := fl) h0 h1
  have hwi : wi d 730484 = 0 := (wi_iff _ _).2 ⟨h0, by omega⟩
  unfold wantF
  by_cases hp : p < 1 ∨ p > 6
  · rw [if_pos hp]; simp [lstat, stV, hw, six_out hp]
  · rw [if_neg hp, lstat_eq hw (six_of (by omega) (by omega))]
    have hV : (0 < cM (vacB d) p 2 (rulesF l)) ↔ fB (gV p d) (rulesF l) k = true := by
      rw [cM_any, fB_all hk]; rw [any_cong (h := gV p d)]; intro x _; simp only [sel, vacB, gV, Bool.decide_and]
    have hS : (0 < cA p 1 (rulesF l)) ↔ fB (gS p) (rulesF l) k = true := by
      rw [cA_any, fB_all hk]; rw [any_cong (h := gS p)]; intro x _; simp [sel, gS]
    have hW : (0 < cA p 3 (rulesF l)) ↔ fB (gW p) (rulesF l) k = true := by
      rw [cA_any, fB_all hk]; rw [any_cong (h := gW p)]; intro x _; simp [sel, gW]
    have hN : (0 < cM (seaB d) p 1 (rulesF l)) ↔ fB (gN p (now d)) (rulesF l) k = true := by
      rw [cM_any, fB_all hk]; rw [any_cong (h := gN p (now d))]
      intro y hy
      obtain ⟨x, hx1, rfl⟩ := rulesF_mem hy
      by_cases hkd : (ruledF x).kind = 1
      · obtain ⟨e1, e2⟩ := ruledF_dates (hx x hx1) hkd
        unfold gN sel seaB yrB
        rw [yrE_of hwi e1 e2, Bool.eq_iff_iff]
        have hz : ((0 : Int) = 0) := rfl
        simp only [Bool.and_eq_true, Bool.or_eq_true, decide_eq_true_eq, hkd, and_true, true_and]
        constructor <;> rintro ⟨q1, q2⟩ <;> refine ⟨q1, ?_⟩ <;> omega
      · simp [gN, sel, hkd]
    have hK : (0 < cM (wekB d) p 3 (rulesF l)) ↔ fB (gK p (d % 7)) (rulesF l) k = true := by
      rw [cM_any, fB_all hk]; rw [any_cong (h := gK p (d % 7))]; intro x _
      have : wk d = d % 7 := by unfold wk; rw [if_pos hwi]
      simp only [sel, wekB, wkB, gK, this]; rfl
    have hH := fH_all (d := d) hj
    unfold statF
    rw [sixPt_id]
    have hst := sixPt_street p
    by_cases c1 : fB (gV p d) (rulesF l) k = true
    · rw [if_pos c1, if_pos (by have := hV.2 c1; omega)]
    · rw [if_neg c1, if_neg (by have := mt hV.1 c1; omega)]
      congr 1
      simp only [eq_iff_iff]
      rw [hst, ← hH, ← hS, ← hW]
      have n1 : fB (gN p (now d)) (rulesF l) k = false ↔ (cM (seaB d) p 1 (rulesF l) : Int) = 0 := by
        rw [← Bool.not_eq_true, ← hN]; omega
      have n2 : fB (gK p (d % 7)) (rulesF l) k = false ↔ (cM (wekB d) p 3 (rulesF l) : Int) = 0 := by
        rw [← Bool.not_eq_true, ← hK]; omega
      rw [n1, n2]
      have z1 : ((cA p 1 (rulesF l) : Nat) : Int) > 0 ↔ 0 < cA p 1 (rulesF l) := by omega
      have z2 : ((cA p 3 (rulesF l) : Nat) : Int) > 0 ↔ 0 < cA p 3 (rulesF l) := by omega
      rw [z1, z2]
end Go.Ab.D
