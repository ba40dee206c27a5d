/- What functions of this program compute, and the laws of what they compute, under the bounds on lengths that each contract states. -/
import Derived.Test.YtegbbhaghlcckaaSG

set_option linter.unusedSimpArgs false
set_option linter.unusedVariables false
namespace Go.Ab.S
open Go Go.Ab Go.Proofs
/-! ### a pass over numbers: each goes behind the others of its stacker -/
def passS (n : Nat) (dst : Int → Int) (ord : List Int) (i : Nat) : List (List Int) := (ord.take i).foldl (fun rows a => rows.set (dst a).toNat (rows.getD (dst a).toNat [] ++ [a])) (List.replicate n [])
section
variable {n : Nat} {dst : Int → Int} {ord : List Int}
theorem passS_succ {i : Nat} (h : i < ord.length) : passS n dst ord (i + 1) = (passS n dst ord i).set (dst ord[i]).toNat ((passS n dst ord i).getD (dst ord[i]).toNat [] ++ [ord[i]]) := by
  unfold passS; rw [List.take_succ_eq_append_getElem h, List.foldl_append]; rfl
theorem passS_len : ∀ i, i ≤ ord.length → (passS n dst ord i).length = n
  | 0, _ => by simp [passS]
  | i + 1, h => by rw [passS_succ (by omega), List.length_set]; exact passS_len i (by omega)
theorem passS_perm (hd : ∀ a ∈ ord, 0 ≤ dst a ∧ dst a < n) : ∀ i, i ≤ ord.length → (passS n dst ord i).flatten.Perm (ord.take i)
  | 0, _ => by simp [passS]
  | i + 1, h => by
    have hi : i < ord.length := by omega
    have h1 := hd _ (List.getElem_mem hi)
    have hl := passS_len (n := n) (dst := dst) (ord := ord) i (by omega)
    have hlt : (dst ord[i]).toNat < (passS n dst ord i).length := by omega
    rw [passS_succ hi, List.take_succ_eq_append_getElem hi]
    refine (flat_setP hlt).trans ?_
    refine ((passS_perm hd i (by omega)).cons _).trans ?_
    exact (List.perm_append_singleton _ _).symm
theorem passS_get (hd : ∀ a ∈ ord, 0 ≤ dst a ∧ dst a < n) : ∀ i, i ≤ ord.length → ∀ k, k < n → (passS n dst ord i).getD k [] = (ord.take i).filter fun a => decide (dst a = k)
  | 0, _, k, _ => by simp only [passS, List.take_zero, List.foldl_nil, getD_repl, List.filter_nil]
  | i + 1, h, k, hk => by
    have hi : i < ord.length := by omega
    have h1 := hd _ (List.getElem_mem hi)
    have hl := passS_len (n := n) (dst := dst) (ord := ord) i (by omega)
    have ih := passS_get hd i (by omega)
    have hlt : (dst ord[i]).toNat < (passS n dst ord i).length := by omega
    rw [passS_succ hi, List.take_succ_eq_append_getElem hi, List.filter_append, gset hlt]
    split
    · rename_i hkk
      rw [← hkk, ih k hk]
      have : dst ord[i] = (k : Int) := by omega
      simp [this]
    · rename_i hkk
      have : ¬ dst ord[i] = (k : Int) := by omega
      rw [ih k hk]; simp [this]
end
end Go.Ab.S
