/- What functions of this program compute, and the laws of what they compute, under the bounds on lengths that each contract states. -/
import Derived.Test.YtghoaglolhdoeaaDoorD16
import Derived.Test.YtghoaglolhdoeaaDoorAb26
namespace Go.Ab.D
open Go Go.Ab Go.Proofs
def badL : List RuleR := [⟨7, 2, 0, 0, 0⟩, ⟨1, 0, 0, 0, 0⟩, ⟨1, 4, 0, 0, 0⟩, ⟨1, 1, 101, 1301, 0⟩, ⟨1, 1, 230, 301, 0⟩, ⟨1, 2, 2, 1, 0⟩, ⟨1, 2, 0, 730485, 0⟩, ⟨1, 3, 0, 0, 128⟩]
def zR : RuleR := ⟨0, 0, 0, 0, 0⟩
theorem bad_ok : ∀ x ∈ badL, x.ok := by simp [badL, RuleR.ok]
theorem bad_bad : ∀ x ∈ badL, okR (sixL 6) x = false := by decide +kernel
theorem zR_ok : zR.ok := by simp [zR, RuleR.ok]
theorem vF_app (pts : List PtR) (t : List RuleR) : ∀ (R : List RuleR) (i : Int), (∀ x ∈ R, okR pts x = true) → vF pts (R ++ t) i = vF pts t (i + R.length)
  | [], i, _ => by simp
  | x :: s, i, h => by
    simp only [List.cons_append, vF, h x (List.mem_cons_self ..), if_true, List.length_cons]
    rw [vF_app pts t s (i + 1) fun y hy => h y (List.mem_cons_of_mem _ hy)]; congr 1; omega
theorem wrong_valid {l : List NoteR} (hx : ∀ x ∈ l, x.ok) {b : RuleR} (hb : b ∈ badL) : validF (sixL 6) (rulesF l ++ [b, zR]) = (((rulesF l).length : Int), 130) := by
  have := rulesF_len l
  rw [validF, if_neg (by simp; omega), vF_app _ _ _ _ (rulesF_okR hx), vF, if_neg (by rw [bad_bad b hb]; decide)]; simp
theorem many_valid (pts : List PtR) {R : List RuleR} (h : 2000 < R.length) : validF pts R = (0, 5) := by rw [validF, if_pos h]
def manyR (n : Nat) : List RuleR := List.replicate n zR
theorem manyR_len (n : Nat) : (manyR n).length = n := List.length_replicate
theorem manyR_map (n : Nat) : (manyR n).map ruleAV = List.replicate n (ruleAV zR) := List.map_replicate
theorem manyR_ok (n : Nat) : ∀ y ∈ manyR n, y.ok := fun _ hy => List.eq_of_mem_replicate hy ▸ zR_ok
theorem incr_app : ∀ (l t : List Int) (d : Int), (∀ x ∈ l, x ≤ 3000) → d ≤ 3000 → incr d (l ++ 3000 :: 3000 :: t) = false
  | [], t, d, _, hd => by simp only [List.nil_append, incr]; simp
  | x :: s, t, d, h, hd => by
    simp only [List.cons_append, incr]
    rw [incr_app s t x (fun y hy => h y (List.mem_cons_of_mem _ hy)) (h x (List.mem_cons_self ..))]; simp
theorem offG_bd : ∀ (l : List Int) (d : Int), ∀ x ∈ offG d l, x ≤ d + 64 * (l.length : Int)
  | [], d, x, hx => by cases hx
  | y :: t, d, x, hx => by
    simp only [offG] at hx
    simp only [List.length_cons]
    rcases List.mem_cons.1 hx with rfl | hx
    · omega
    · have := offG_bd t (d + (1 + y % 64)) x hx; omega
theorem twice_wr (fl : List Int) (d : Int) : wrF (offF fl ++ [3000, 3000]) d = 2 := by
  have h1 := List.length_take_le 30 fl
  have : incr (-1) (offF fl ++ [3000, 3000]) = false := incr_app _ [] (-1) (fun x hx => by
    have := offG_bd (fl.take 30) (-1) x hx; omega) (by omega)
  simp [wrF, rightF, this]
theorem neg_wr (fl : List Int) : wrF (offF fl) (-1) = 2 := by simp [wrF]
theorem late_wr (fl : List Int) : wrF (offF fl) 730485 = 3 := by simp [wrF, offF_right]
end Go.Ab.D
