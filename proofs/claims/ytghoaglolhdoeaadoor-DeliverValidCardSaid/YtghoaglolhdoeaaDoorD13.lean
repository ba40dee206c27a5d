/- What functions of this program compute, and the laws of what they compute, under the bounds on lengths that each contract states. -/
import Derived.Test.YtghoaglolhdoeaaDoorD8
set_option linter.unusedSimpArgs false
set_option linter.unusedVariables false
namespace Go.Ab.D
open Go Go.Ab Go.Proofs
theorem fst_step (y m : Int) (h1 : 1 ≤ m) (h2 : m ≤ 12) : fst y m ≤ fst y (m + 1) ∧ fst 2001 (m + 1) - fst 2001 m ≤ fst y (m + 1) - fst y m := by
  have hl : leap 2001 = false := by decide
  obtain ⟨n, rfl⟩ : ∃ n : Nat, m = n := ⟨m.toNat, by omega⟩
  unfold fst
  rw [hl]
  match n, h1, h2 with
  | 1, _, _ | 2, _, _ | 3, _, _ | 4, _, _ | 5, _, _ | 6, _, _ | 7, _, _ | 8, _, _ | 9, _, _ | 10, _, _ | 11, _, _ | 12, _, _ => cases leap y <;> simp [ah]
  | n + 13, _, h => exact absurd h (by omega)
theorem fst_mono (y : Int) {a : Int} : ∀ (n : Nat), 1 ≤ a → a + n ≤ 13 → fst y a ≤ fst y (a + n)
  | 0, _, _ => by simp
  | n + 1, h1, h2 => by
    have := fst_mono y n h1 (by omega)
    have h3 := (fst_step y (a + n) (by omega) (by omega)).1
    rw [show a + ((n + 1 : Nat) : Int) = a + n + 1 by omega]; omega
theorem mon_spec (y d : Int) : ∀ (n : Nat) (m : Int), fst y m ≤ d → d < fst y (m + n) → m ≤ mon y d n m ∧ mon y d n m < m + n ∧ fst y (mon y d n m) ≤ d ∧ d < fst y (mon y d n m + 1)
  | 0, m, h1, h2 => by simp at h2; omega
  | n + 1, m, h1, h2 => by
    simp only [mon]
    split
    · rename_i h
      have := mon_spec y d n (m + 1) h (by rw [show m + 1 + (n : Int) = m + ((n + 1 : Nat) : Int) by omega]; exact h2)
      omega
    · rename_i h; exact ⟨by omega, by omega, h1, by omega⟩
theorem mon_eq (y d : Int) : ∀ (n : Nat) (m0 m : Int), 1 ≤ m0 → m0 ≤ m → m < m0 + n → m ≤ 12 → fst y m ≤ d → d < fst y (m + 1) → mon y d n m0 = m
  | 0, m0, m, _, _, _, _, _, _ => by omega
  | n + 1, m0, m, h0, h1, h2, h3, h4, h5 => by
    simp only [mon]
    rcases Int.lt_or_le m0 m with h | h
    · have h6 := fst_mono y (a := m0 + 1) (m - (m0 + 1)).toNat (by omega) (by omega)
      rw [show m0 + 1 + (((m - (m0 + 1)).toNat : Nat) : Int) = m by omega] at h6
      rw [if_pos (by omega)]
      exact mon_eq y d n (m0 + 1) m (by omega) (by omega) (by omega) h3 h4 h5
    · have : m = m0 := by omega
      subst this
      rw [if_neg (by omega)]
def dayN (y k : Int) : Int := 365 * (y - 1) + (y - 1) / 4 - (y - 1) / 100 + (y - 1) / 400 - 730485 + k
theorem dayN_dt {y k : Int} (h1 : 2001 ≤ y) (h2 : y ≤ 4000) (h3 : 0 ≤ k) (h4 : k < fst y 13) : 0 ≤ dayN y k ∧ dayN y k ≤ 730484 ∧ dtY (dayN y k) = y ∧ dt4 (dayN y k) = k := by
  rw [fst13] at h4
  obtain ⟨a, ha⟩ : ∃ a, a = (y - 2001) / 400 := ⟨_, rfl⟩
  obtain ⟨h, hh⟩ : ∃ h, h = (y - 2001) % 400 / 100 := ⟨_, rfl⟩
  obtain ⟨f, hf⟩ : ∃ f, f = (y - 2001) % 100 / 4 := ⟨_, rfl⟩
  obtain ⟨o, ho⟩ : ∃ o, o = (y - 2001) % 4 := ⟨_, rfl⟩
  have hy : y = 2001 + 400 * a + 100 * h + 4 * f + o := by omega
  have b1 : 0 ≤ a ∧ a ≤ 4 := by omega
  have b2 : 0 ≤ h ∧ h ≤ 3 := by omega
  have b3 : 0 ≤ f ∧ f ≤ 24 := by omega
  have b4 : 0 ≤ o ∧ o ≤ 3 := by omega
  have hN : dayN y k = 146097 * a + 36524 * h + 1461 * f + 365 * o + k := by unfold dayN; omega
  have hk : k ≤ 364 ∨ (k = 365 ∧ o = 3 ∧ (f ≠ 24 ∨ h = 3)) := by
    by_cases hl : leap y = true
    · have : y % 4 = 0 ∧ (y % 100 ≠ 0 ∨ y % 400 = 0) := by simpa [leap] using hl
      rw [if_pos hl] at h4; omega
    · rw [if_neg hl] at h4; omega
  generalize dayN y k = N at hN ⊢
  have c1 : N / 146097 = a ∧ N % 146097 = 36524 * h + 1461 * f + 365 * o + k := by omega
  have e1 : dtH N = h := by unfold dtH; rw [c1.2]; omega
  have e2 : dt2 N = 1461 * f + 365 * o + k := by unfold dt2; rw [e1, c1.2]; omega
  have e3 : dtF N = f := by unfold dtF; rw [e2]; omega
  have e4 : dt3 N = 365 * o + k := by unfold dt3; rw [e3, e2]; omega
  have e5 : dtO N = o := by unfold dtO; rw [e4]; omega
  have e6 : dt4 N = k := by unfold dt4; rw [e4, e5]; omega
  have e7 : dtY N = y := by unfold dtY; rw [e1, e3, e5, c1.1]; omega
  exact ⟨by omega, by omega, e7, e6⟩
theorem date_of {y m d : Int} (h : dated y m d = true) : 0 ≤ (dayF y m d).1 ∧ (dayF y m d).1 ≤ 730484 ∧ (dayF y m d).2 = 0 ∧ dateM (dayF y m d).1 = m ∧ dateD (dayF y m d).1 = d ∧ dateY (dayF y m d).1 = y := by
  obtain ⟨h1, h2, h3, h4, h5, h6⟩ := dated_imp h
  have hF : dayF y m d = (dayN y (fst y m + d - 1), 0) := by unfold dayF dayN; rw [if_pos h]; congr 1; omega
  have g1 := fst_mono y (a := 1) (m - 1).toNat (by omega) (by omega)
  rw [fst1, show (1 : Int) + (((m - 1).toNat : Nat) : Int) = m by omega] at g1
  have g2 := fst_mono y (a := m + 1) (13 - (m + 1)).toNat (by omega) (by omega)
  rw [show m + 1 + (((13 - (m + 1)).toNat : Nat) : Int) = 13 by omega] at g2
  obtain ⟨a, b, c, e⟩ := dayN_dt h1 h2 (k := fst y m + d - 1) (by omega) (by omega)
  have hM : dtM (dayN y (fst y m + d - 1)) = m := by unfold dtM; rw [c, e]; exact mon_eq y _ 12 1 m (by omega) h3 (by omega) h4 (by omega) (by omega)
  have hw : wi (dayN y (fst y m + d - 1)) 730484 = 0 := (wi_iff _ _).2 ⟨a, b⟩
  rw [hF]
  refine ⟨a, b, rfl, ?_, ?_, ?_⟩
  · simp only [dateM, hw, if_true]; exact hM
  · simp only [dateD, hw, if_true, dtD, hM, c, e]; omega
  · simp only [dateY, hw, if_true]; exact c
theorem date_first {d : Int} (h0 : 0 ≤ d) (h1 : d ≤ 364) : wi d 730484 = 0 ∧ ∀ y, 2001 ≤ y → y ≤ 4000 → dated y (dateM d) (dateD d) = true := by
  have hw : wi d 730484 = 0 := (wi_iff _ _).2 ⟨h0, by omega⟩
  have e1 : dtH d = 0 := by unfold dtH; omega
  have e2 : dt2 d = d := by unfold dt2; rw [e1]; omega
  have e3 : dtF d = 0 := by unfold dtF; rw [e2]; omega
  have e4 : dt3 d = d := by unfold dt3; rw [e2, e3]; omega
  have e5 : dtO d = 0 := by unfold dtO; rw [e4]; omega
  have e6 : dt4 d = d := by unfold dt4; rw [e4, e5]; omega
  have e7 : dtY d = 2001 := by unfold dtY; rw [e1, e3, e5]; omega
  have h13 : fst 2001 13 = 365 := by decide +kernel
  have hs := mon_spec 2001 d 12 1 (by rw [fst1]; exact h0) (by show d < fst 2001 13; omega)
  have hM : dateM d = mon 2001 d 12 1 := by simp only [dateM, hw, if_true, dtM, e6, e7]
  have hD : dateD d = d - fst 2001 (mon 2001 d 12 1) + 1 := by simp only [dateD, hw, if_true, dtD, dtM, e6, e7]
  refine ⟨hw, fun y h2 h3 => ?_⟩
  rw [hM, hD]
  generalize mon 2001 d 12 1 = m at hs ⊢
  have hst := (fst_step y m hs.1 (by omega)).2
  unfold dated
  exact decide_eq_true ⟨h2, h3, hs.1, by omega, by omega, by omega⟩
def laterF (d y : Int) : Int := (dayF y (dateM d) (dateD d)).1
def kF (R : List RuleR) (q : Int) (k : Nat) : List RuleR := (R.take k).filter (fun x => decide (x.kind = q))
theorem kF_succ {R : List RuleR} {q : Int} {k : Nat} (h : k < R.length) : kF R q (k + 1) = kF R q k ++ if R[k].kind = q then [R[k]] else [] := by
  unfold kF; rw [List.take_succ_eq_append_getElem h, List.filter_append]; by_cases h2 : R[k].kind = q <;> simp [h2]
theorem kF_bd (R : List RuleR) (q : Int) (k : Nat) : (kF R q k).length ≤ k := by
  have h1 := List.length_filter_le (fun x : RuleR => decide (x.kind = q)) (R.take k); have h2 := List.length_take_le k R; unfold kF; omega
theorem kF_ok {R : List RuleR} (h : ∀ x ∈ R, x.ok) (q : Int) (k : Nat) : ∀ x ∈ kF R q k, x.ok := fun x hx => h x (List.mem_of_mem_take (List.mem_filter.1 hx).1)
theorem kF_none {R : List RuleR} {q r : Int} (h : q ≠ r) (pt : Int) (k : Nat) (meets : RuleR → Bool) : cA pt r (kF R q k) = 0 ∧ cM meets pt r (kF R q k) = 0 := by
  have : (kF R q k).filter (sel pt r) = [] := by
    rw [List.filter_eq_nil_iff]
    intro x hx hs
    have h1 := of_decide_eq_true (List.mem_filter.1 hx).2
    simp [sel] at hs
    exact h (h1.symm.trans hs.2)
  unfold cA cM; rw [this]; exact ⟨rfl, rfl⟩
theorem years_law (R : List RuleR) (k : Nat) (d y : Int) (h0 : 0 ≤ d) (h1 : d ≤ 364) (h2 : 2001 ≤ y) (h3 : y ≤ 4000) :
    wi d 730484 = 0 ∧ (dayF y (dateM d) (dateD d)).2 = 0 ∧ 0 ≤ laterF d y ∧ laterF d y ≤ 730484 ∧ ∀ (i : Nat) (hi : i < (sixL 6).length),
      lstat (sixL 6) (kF R 1 k) [] (sixL 6)[i].id d = lstat (sixL 6) (kF R 1 k) [] (sixL 6)[i].id (laterF d y) ∧
      (laterF d y + 7 ≤ 730484 → lstat (sixL 6) (kF R 3 k) [] (sixL 6)[i].id (laterF d y) = lstat (sixL 6) (kF R 3 k) [] (sixL 6)[i].id (laterF d y + 7)) := by
  obtain ⟨hw, hd⟩ := date_first h0 h1
  obtain ⟨a, b, c, e, f, g⟩ := date_of (hd y h2 h3)
  have hL : wi (laterF d y) 730484 = 0 := (wi_iff _ _).2 ⟨a, b⟩
  have nw : ∀ x, 0 ≤ x → x ≤ 730484 → wrF [] x = 0 := fun x h4 h5 => by simp [wrF, rightF, incr, h4]; omega
  refine ⟨hw, c, a, b, fun i hi => ⟨?_, fun h7 => ?_⟩⟩
  · obtain ⟨f1, _⟩ := six_find hi
    rw [lstat_eq (nw d h0 (by omega)) f1, lstat_eq (nw (laterF d y) a b) f1]
    have hnow : now (laterF d y) = now d := by unfold now laterF; rw [e, f]
    have hsea : seaB (laterF d y) = seaB d := by
      funext x; unfold seaB yrB yrE; rw [hnow, hL, hw]
    unfold statF
    simp only [(kF_none (R := R) (q := 1) (r := 2) (by decide) _ k _).2, (kF_none (R := R) (q := 1) (r := 3) (by decide) _ k (fun _ => true)).1, hsea]
    simp
  · obtain ⟨f1, _⟩ := six_find hi
    rw [lstat_eq (nw (laterF d y) a b) f1, lstat_eq (nw _ (show 0 ≤ laterF d y + 7 by unfold laterF; omega) h7) f1]
    have hwk : wekB (laterF d y + 7) = wekB (laterF d y) := by
      funext x; unfold wekB; congr 1; unfold wk; rw [hL, (wi_iff _ _).2 ⟨show 0 ≤ laterF d y + 7 by unfold laterF; omega, h7⟩]; simp
    unfold statF
    simp only [(kF_none (R := R) (q := 3) (r := 2) (by decide) _ k _).2, (kF_none (R := R) (q := 3) (r := 1) (by decide) _ k (fun _ => true)).1, hwk]
    simp
end Go.Ab.D
